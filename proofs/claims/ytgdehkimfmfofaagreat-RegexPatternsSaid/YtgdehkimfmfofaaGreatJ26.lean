/-
  Plain functions: how much the lists of the cover hold, from tables.
-/
import Derived.Test.YtgdehkimfmfofaaGreatJ25
import Derived.Test.YtgdehkimfmfofaaGreatJ24
set_option linter.unusedVariables false
set_option linter.unusedSimpArgs false
namespace Go.Wb
set_option linter.unusedVariables false
open Go.Am Go.Wc
section
variable (a : List Letter) (sets : List SetT) (S : List UInt8)
inductive Chain : List UInt8 → List UInt8 → List Rx → Prop
  | nil {rest : List UInt8} : Chain [] rest []
  | cons {t u rest : List UInt8} {x : Rx} {B : List UInt8 → Prop} {q : List Rx} : PostRd a sets S t x B → FP (u ++ rest) → B (u ++ rest) → Chain u rest q → Chain (t ++ u) rest (x :: q)
inductive Seqs : List (List UInt8) → List Rx → Prop
  | nil : Seqs [] []
  | cons {t : List UInt8} {x : Rx} {ts : List (List UInt8)} {xs : List Rx} : SeqRd a sets S t x → Seqs ts xs → Seqs (t :: ts) (x :: xs)
end
section
variable {a : List Letter} {sets : List SetT} {S : List UInt8} (hA : validA a = true)
include hA
theorem chain_rd {t rest : List UInt8} {q : List Rx} (h : Chain a sets S t rest q) (hF : FS rest) : ∀ (m k n : Nat) (bad : Int), bad < 0 → S.drop k = t ++ rest → S.length ≤ k + n → k ≤ S.length → S.length < k + m →
    ∃ ys, rSeqLp (tkR a sets S) (rPost (tkR a sets S) (S.length + 1) n) m ⟨k, bad⟩ = (ys, ⟨k + t.length, bad⟩) ∧ Raws ys q := by
  induction h with
  | nil =>
    intro m k n bad hb hS hn hk hm
    have h1 := FS.hd hA (sets := sets) hS hF
    exact ⟨[], rSeqLp_stop (fun q => by
      have q2 : (tkR a sets S k).1 = 97 ∨ (tkR a sets S k).1 = 40 := q.2
      omega), .nil⟩
  | @cons t u rest x B q hp hf hB hc ih =>
    intro m k n bad hb hS hn hk hm
    have hS' : S.drop k = t ++ (u ++ rest) := by rw [hS, List.append_assoc]
    obtain ⟨h0, h1, y, e1, e2⟩ := hp k n bad (u ++ rest) hb hS' hf hB hn hk
    have hl := drop_len hS' hk
    obtain ⟨m, rfl⟩ : ∃ m', m = m' + 1 := ⟨m - 1, by omega⟩
    obtain ⟨ys, f1, f2⟩ := ih hF m (k + t.length) n bad hb (drop_app hS') (by omega) hl (by omega)
    refine ⟨y :: ys, ?_, .cons e2 f2⟩
    rw [rSeqLp_step (s := ⟨k, bad⟩) ⟨hb, h1⟩, e1]
    show (y :: (rSeqLp _ _ m ⟨k + t.length, bad⟩).1, (rSeqLp _ _ m ⟨k + t.length, bad⟩).2) = _
    rw [f1, List.length_append, Nat.add_assoc]
theorem chain_seq {t : List UInt8} {q : List Rx} {x : Rx} (h : ∀ rest, FS rest → Chain a sets S t rest q) (hx : seqN q = x) : SeqRd a sets S t x := fun k n bad rest hb hS hF hn hk => by
  obtain ⟨ys, e1, e2⟩ := chain_rd hA (h rest hF) hF (S.length + 1) k n bad hb hS hn hk (by omega)
  refine ⟨.mk 3 [] ys, ?_, by have := e2.seq; rwa [hx] at this⟩
  unfold rSeq; rw [e1]
omit hA in
theorem join_cons (t t2 : List UInt8) (ts : List (List UInt8)) : joinB (t :: t2 :: ts) = t ++ (124 :: joinB (t2 :: ts)) := by
  unfold joinB Lib.join List.intercalate; simp [List.intersperse]
omit hA in
theorem join_one (t : List UInt8) : joinB [t] = t := by
  unfold joinB Lib.join List.intercalate; simp [List.intersperse]
theorem seqs_rd : ∀ {ts : List (List UInt8)} {xs : List Rx}, Seqs a sets S ts xs → ts ≠ [] → ∀ (m k n : Nat) (bad : Int) (rest : List UInt8), bad < 0 → S.drop k = joinB ts ++ rest → FA rest → S.length ≤ k + n → k ≤ S.length → S.length < k + m →
    ∃ ys, rAltLp (tkR a sets S) (rSeq (tkR a sets S) (S.length + 1) (rPost (tkR a sets S) (S.length + 1) n)) m ⟨k, bad⟩ = (ys, ⟨k + (joinB ts).length, bad⟩) ∧ Raws ys xs := by
  intro ts xs h
  induction h with
  | nil => intro h0; exact absurd rfl h0
  | @cons t x ts xs hs hr ih =>
    intro _ m k n bad rest hb hS hF hn hk hm
    obtain ⟨m, rfl⟩ : ∃ m', m = m' + 1 := ⟨m - 1, by omega⟩
    cases hr with
    | nil =>
      rw [join_one] at hS ⊢
      obtain ⟨y, e1, e2⟩ := hs k n bad rest hb hS (.inl hF) hn hk
      have h1 := FA.hd hA (sets := sets) (drop_app hS) hF
      refine ⟨[y], ?_, .cons e2 .nil⟩
      rw [rAltLp_last hb (by
        rw [e1]
        show (tkR a sets S (k + t.length)).1 ≠ 124
        omega), e1]
    | @cons t2 x2 ts xs hs2 hr2 =>
      rw [join_cons] at hS ⊢
      rw [List.append_assoc] at hS
      have hS' : S.drop k = t ++ (124 :: (joinB (t2 :: ts) ++ rest)) := hS
      obtain ⟨y, e1, e2⟩ := hs k n bad _ hb hS' (.inr ⟨_, rfl⟩) hn hk
      have hS2 := drop_app hS'
      have ht := tk_sign (sets := sets) hA hS2 (by decide)
      have hS3 := drop_one hS2
      have hl := drop_lt hS2
      have hadv : (⟨k + t.length, bad⟩ : RS).adv (tkR a sets S) = ⟨k + t.length + 1, bad⟩ := by show (⟨k + t.length + (tkR a sets S (k + t.length)).2.2, bad⟩ : RS) = _; rw [ht]
      obtain ⟨ys, f1, f2⟩ := ih (by simp) m (k + t.length + 1) n bad rest hb hS3 hF (by omega) (by omega) (by omega)
      refine ⟨y :: ys, ?_, .cons e2 f2⟩
      rw [rAltLp_more hb (by rw [e1]; show (tkR a sets S (k + t.length)).1 = 124; rw [ht]; rfl), e1]
      show (y :: (rAltLp _ _ m ((⟨k + t.length, bad⟩ : RS).adv _)).1, (rAltLp _ _ m ((⟨k + t.length, bad⟩ : RS).adv _)).2) = _
      rw [hadv, f1, List.length_append, List.length_cons, show k + t.length + 1 + (joinB (t2 :: ts)).length = k + (t.length + ((joinB (t2 :: ts)).length + 1)) by omega]
theorem seqs_alt {ts : List (List UInt8)} {xs : List Rx} {x : Rx} (h : Seqs a sets S ts xs) (h0 : ts ≠ []) (hx : altN xs = x) : AltRd a sets S (joinB ts) x := fun k n bad rest hb hS hF hn hk => by
  obtain ⟨ys, e1, e2⟩ := seqs_rd hA h h0 (S.length + 1) k n bad rest hb hS hF hn hk (by omega)
  refine ⟨.mk 4 [] ys, ?_, by have := e2.alt; rwa [hx] at this⟩
  unfold rAltR; rw [e1]
theorem seq_alt {t : List UInt8} {x : Rx} (h : SeqRd a sets S t x) (hx : altN [x] = x) : AltRd a sets S t x := by
  have := seqs_alt hA (Seqs.cons h .nil) (by simp) hx
  rwa [join_one] at this
theorem post_seq {t : List UInt8} {x : Rx} {B : List UInt8 → Prop} (h : PostRd a sets S t x B) (hB : ∀ rest, FS rest → B rest) (hx : seqN [x] = x) : SeqRd a sets S t x :=
  chain_seq hA (q := [x]) (fun rest hF => by
    have h1 : Chain a sets S (t ++ []) rest [x] := .cons h hF.fp (hB rest hF) .nil
    rwa [List.append_nil] at h1) hx
def Bx (a : List Letter) (x : Rx) (rest : List UInt8) : Prop := longR a (bareR a x) = false ∨ Res0 rest
theorem sym_atom {n : Int} (h0 : 0 ≤ n) (hk : n < a.length ∨ n = 63 ∨ n = 62) : 0 < (letterT a n).length ∧ AtomRd a sets S (letterT a n) (oneR [n]) (fun rest => n < a.length → longR a n = false ∨ Res0 rest) := by
  have hbd := validA_bd hA
  unfold letterT
  split
  · next h =>
    subst h
    exact ⟨by decide, fun k rest hS _ => tk_plus hA hS⟩
  · next h1 =>
    split
    · next h =>
      subst h
      exact ⟨by decide, fun k rest hS _ => tk_edge hA hS⟩
    · next h2 =>
      have hn : n.toNat < a.length := by omega
      refine ⟨(text_pos hA hn).1, fun k rest hS hB => ?_⟩
      have e : ((n.toNat : Nat) : Int) = n := by omega
      have := tk_text (sets := sets) hA hn hS (by rw [e]; exact hB (by omega))
      rwa [e] at this
theorem sym_lead {n : Int} (h0 : 0 ≤ n) (hk : n < a.length ∨ n = 63 ∨ n = 62) : ∃ c r, letterT a n = c :: r ∧ c ≠ 42 ∧ c ≠ 63 ∧ (¬ n < a.length → resB c = true) := by
  have hbd := validA_bd hA
  unfold letterT
  split
  · exact ⟨45, [], rfl, by decide, by decide, fun _ => by decide⟩
  · next h1 =>
    split
    · exact ⟨35, [], rfl, by decide, by decide, fun _ => by decide⟩
    · next h2 =>
      have hn : n.toNat < a.length := by omega
      have hp := (text_pos hA hn).1
      have hf := txt_free hA hn
      generalize (a.getD n.toNat default).text = T at *
      cases T with
      | nil => exact absurd hp (by decide)
      | cons c r =>
        have hc := hf c List.mem_cons_self
        refine ⟨c, r, rfl, fun e => ?_, fun e => ?_, fun q => absurd (show n < a.length by omega) q⟩
        · rw [e] at hc; revert hc; decide
        · rw [e] at hc; revert hc; decide
omit hA in
theorem range_is {s : List Int} (h : setOk s = true) (hl : s.getD (s.length - 1) default = (s.length : Int) - 1) : s = (List.range s.length).map fun (k : Nat) => (k : Int) := by
  have h1 := setOk_iff.1 h
  have lo : ∀ i, i < s.length → (i : Int) ≤ s.getD i default := by
    intro i
    induction i with
    | zero => intro hi; exact (h1.2.2 _ (by rw [getD_el hi]; exact List.getElem_mem hi)).1
    | succ i ih =>
      intro hi
      have h2 := ih (by omega)
      have h3 := pair_getD h1.2.1 (Nat.lt_succ_self i) hi
      have h4 : s.getD i default ≤ s.getD (i + 1) default := of_decide_eq_true h3.1
      have h5 : s.getD i default ≠ s.getD (i + 1) default := h3.2
      omega
  have hi : ∀ j i, i + j + 1 = s.length → s.getD i default ≤ (i : Int) := by
    intro j
    induction j with
    | zero => intro i hij; rw [show i = s.length - 1 by omega, hl]; omega
    | succ j ih =>
      intro i hij
      have h2 := ih (i + 1) (by omega)
      have h3 := pair_getD h1.2.1 (Nat.lt_succ_self i) (by omega : i + 1 < s.length)
      have h4 : s.getD i default ≤ s.getD (i + 1) default := of_decide_eq_true h3.1
      have h5 : s.getD i default ≠ s.getD (i + 1) default := h3.2
      omega
  refine getD_ext (by simp) fun k hk => ?_
  have h2 := lo k hk
  have h3 := hi (s.length - 1 - k) k (by omega)
  rw [List.getD_eq_getElem?_getD (l := List.map _ _), List.getElem?_map, List.getElem?_range hk]
  show s.getD k default = (k : Int)
  omega
theorem set_rd {s : List Int} (h : setOk s = true) (hk : ∀ z ∈ s, 0 ≤ z ∧ (z < a.length ∨ z = 63 ∨ z = 62)) :
    (0 < (setT a s).length ∧ AtomRd a sets S (setT a s) (oneR s) (Bx a (oneR s))) ∨ (∃ J, setT a s = [40] ++ J ++ [41] ∧ AltRd a sets S J (oneR s)) := by
  have hp := (setOk_iff.1 h).1
  by_cases h1 : s.length = a.length ∧ 1 < a.length ∧ s.getD (a.length - 1) default = (a.length : Int) - 1
  · rw [setT_dot h1.1 h1.2.1 h1.2.2]
    refine .inl ⟨by decide, fun k rest hS _ => ?_⟩
    rw [tk_any hA hS, range_is h (by rw [h1.1]; exact h1.2.2), h1.1]; simp
  · by_cases h2 : s.length = 1
    · obtain ⟨z, rfl⟩ : ∃ z, s = [z] := by
        match s, h2 with
        | [z], _ => exact ⟨z, rfl⟩
      rw [setT_one h1 rfl]
      obtain ⟨q1, q2⟩ := hk z (List.mem_singleton.2 rfl)
      obtain ⟨g1, g2⟩ := sym_atom (sets := sets) (S := S) hA q1 q2
      refine .inl ⟨g1, fun k rest hS hB => g2 k rest hS fun hz => ?_⟩
      rcases hB with hB | hB
      · have e : bareR a (oneR [z]) = z := if_pos ⟨rfl, rfl, hz⟩
        rw [e] at hB; exact .inl hB
      · exact .inr hB
    · rw [setT_many h1 h2]
      refine .inr ⟨_, rfl, ?_⟩
      have hs : ∀ l : List Int, (∀ z ∈ l, 0 ≤ z ∧ (z < a.length ∨ z = 63 ∨ z = 62)) → Seqs a sets S (l.map (letterT a)) (l.map fun z => oneR [z]) := by
        intro l hl
        induction l with
        | nil => exact .nil
        | cons z l ih =>
          obtain ⟨q1, q2⟩ := hl z List.mem_cons_self
          obtain ⟨g1, g2⟩ := sym_atom (sets := sets) (S := S) hA q1 q2
          have hnf : Nf (oneR [z]) := .set (sing_ok (by have := validA_bd hA; omega))
          exact .cons (post_seq hA (post_atom hnf g1 g2) (fun rest hF _ => .inr hF.res) (seqN_one (x := oneR [z]) ⟨by show (2 : Int) ≠ 1; decide, by show (2 : Int) ≠ 3; decide⟩ (fun q => absurd q (by show ¬ (2 : Int) = 0; decide)))) (ih fun w hw => hl w (List.mem_cons_of_mem _ hw))
      exact seqs_alt hA (hs s hk) (by intro e; have := congrArg List.length e; rw [List.length_map, List.length_nil] at this; omega) (altN_set h)
end
end Go.Wb

namespace Go.Wb
set_option linter.unusedVariables false
open Go.Am Go.Wc
section
variable {a : List Letter} {sets : List SetT} {S : List UInt8} (hA : validA a = true)
include hA
theorem set_lead {s : List Int} (h : setOk s = true) (hk : ∀ z ∈ s, 0 ≤ z ∧ (z < a.length ∨ z = 63 ∨ z = 62)) : ∃ c r, setT a s = c :: r ∧ c ≠ 42 ∧ c ≠ 63 ∧ (¬ 0 ≤ bareR a (oneR s) → resB c = true) := by
  by_cases h1 : s.length = a.length ∧ 1 < a.length ∧ s.getD (a.length - 1) default = (a.length : Int) - 1
  · rw [setT_dot h1.1 h1.2.1 h1.2.2]
    exact ⟨46, [], rfl, by decide, by decide, fun _ => by decide⟩
  · by_cases h2 : s.length = 1
    · obtain ⟨z, rfl⟩ : ∃ z, s = [z] := by
        match s, h2 with
        | [z], _ => exact ⟨z, rfl⟩
      rw [setT_one h1 rfl]
      obtain ⟨q1, q2⟩ := hk z (List.mem_singleton.2 rfl)
      obtain ⟨c, r, g1, g2, g3, g4⟩ := sym_lead hA q1 q2
      refine ⟨c, r, g1, g2, g3, fun hb => g4 fun hz => hb ?_⟩
      have e : bareR a (oneR [z]) = z := if_pos ⟨rfl, rfl, hz⟩
      rw [e]; exact q1
    · rw [setT_many h1 h2]
      exact ⟨40, _, rfl, by decide, by decide, fun _ => by decide⟩
omit hA in
theorem PostRd.any {t : List UInt8} {x : Rx} {B : List UInt8 → Prop} (h : PostRd a sets S t x (fun _ => True)) : PostRd a sets S t x B := fun k n bad rest hb hS hF _ hn hk => h k n bad rest hb hS hF trivial hn hk
theorem set_post {s : List Int} (h : setOk s = true) (hk : ∀ z ∈ s, 0 ≤ z ∧ (z < a.length ∨ z = 63 ∨ z = 62)) : PostRd a sets S (setT a s) (oneR s) (Bx a (oneR s)) := by
  rcases set_rd (sets := sets) (S := S) hA h hk with ⟨h0, h1⟩ | ⟨J, e, h1⟩
  · exact post_atom (.set h) h0 h1
  · rw [e]; exact post_par hA h1
theorem star_post {z : Rx} (hz : Nf z) (hk : knownR a z = true) (h1 : z.kind ≠ 0 ∧ z.kind ≠ 1 ∧ z.kind ≠ 5) (hs : starN z = .mk 5 [] [z]) (hR : AltRd a sets S (textR a z) z) : PostRd a sets S (partT z true (textR a z) ++ [42]) (.mk 5 [] [z]) (fun _ => True) := by
  have hkd := hz.kinds
  by_cases h2 : z.kind = 2
  · obtain ⟨e, h3⟩ := hz.k2 h2
    have hsy := nf_syms hz hk
    have e1 : partT z true (textR a z) = setT a z.syms := by unfold partT; rw [if_neg (fun q => by omega), textR_2 h2]
    have e2 : oneR z.syms = z := e.symm
    rw [e1]
    rcases set_rd (sets := sets) (S := S) hA h3 hsy with ⟨h0, h4⟩ | ⟨J, e3, h4⟩
    · rw [e2] at h4
      exact post_star hA hz hs h0 (fun r => .inr (.inr ⟨42, r, rfl, by decide⟩)) h4
    · rw [e2] at h4
      rw [e3, List.append_assoc]
      exact post_pars hA hs h4
  · have e1 : partT z true (textR a z) = [40] ++ textR a z ++ [41] := by unfold partT; rw [if_pos ((show z.kind = 4 ∨ z.kind = 3 by omega).elim .inl fun q => .inr ⟨q, rfl⟩)]
    rw [e1, List.append_assoc]
    exact post_pars hA hs hR
omit hA in
theorem bare_not {x : Rx} (h : x.kind ≠ 2) : bareR a x = -1 := if_neg fun q => h q.1
theorem piece_lead {y : Rx} (hy : Nf y) (hk : knownR a y = true) (hd : y.kind = 2 ∨ y.kind = 4 ∨ y.kind = 5) (last : Int) : ∃ c r, pieceT a last y (textR a y) ((y.kids.map (textR a)).getD 0 default) = c :: r ∧ c ≠ 42 ∧ c ≠ 63 ∧ (longR a last = true → resB c = true) := by
  by_cases p1 : longR a last = true ∧ 0 ≤ bareR a y
  · rw [piece_1 p1.1 p1.2]; exact ⟨40, _, rfl, by decide, by decide, fun _ => by decide⟩
  · by_cases p2 : longR a last = true ∧ y.kind = 5 ∧ 0 ≤ bareR a (y.kids.getD 0 default)
    · rw [piece_2 p2.1 (fun q => p1 ⟨p2.1, q⟩) p2.2.1 p2.2.2]; exact ⟨40, _, rfl, by decide, by decide, fun _ => by decide⟩
    · rw [piece_3 p1 p2]
      rcases hd with hd | hd | hd
      · obtain ⟨e, h3⟩ := hy.k2 hd
        obtain ⟨c, r, g1, g2, g3, g4⟩ := set_lead hA h3 (nf_syms hy hk)
        have e1 : partT y false (textR a y) = setT a y.syms := by unfold partT; rw [if_neg (fun q => by simp at q; omega), textR_2 hd]
        refine ⟨c, r, by rw [e1]; exact g1, g2, g3, fun hl => g4 fun hb => p1 ⟨hl, ?_⟩⟩
        rw [e]; exact hb
      · have e1 : partT y false (textR a y) = [40] ++ textR a y ++ [41] := by unfold partT; rw [if_pos (.inl hd)]
        rw [e1]; exact ⟨40, _, rfl, by decide, by decide, fun _ => by decide⟩
      · obtain ⟨z, e, hz, h1, _⟩ := hy.k5 hd
        subst e
        have e1 : partT (.mk 5 [] [z]) false (textR a (.mk 5 [] [z])) = partT z true (textR a z) ++ [42] := by
          unfold partT
          rw [if_neg (fun q => by simp [Rx.kind] at q), textR_5 (r := .mk 5 [] [z]) rfl (Nat.succ_pos _)]; rfl
        rw [e1]
        have hkz : knownR a z = true := known_kids hk z (List.mem_singleton.2 rfl)
        have hkd := hz.kinds
        by_cases h2 : z.kind = 2
        · obtain ⟨e, h3⟩ := hz.k2 h2
          obtain ⟨c, r, g1, g2, g3, g4⟩ := set_lead hA h3 (nf_syms hz hkz)
          have e2 : partT z true (textR a z) = setT a z.syms := by unfold partT; rw [if_neg (fun q => by omega), textR_2 h2]
          refine ⟨c, r ++ [42], by rw [e2, g1]; rfl, g2, g3, fun hl => g4 fun hb => p2 ⟨hl, rfl, ?_⟩⟩
          show 0 ≤ bareR a z
          rw [e]; exact hb
        · have e2 : partT z true (textR a z) = [40] ++ textR a z ++ [41] := by unfold partT; rw [if_pos ((show z.kind = 4 ∨ z.kind = 3 by omega).elim .inl fun q => .inr ⟨q, rfl⟩)]
          rw [e2]; exact ⟨40, _, rfl, by decide, by decide, fun _ => by decide⟩
omit hA in
def Rd (a : List Letter) (sets : List SetT) (S : List UInt8) (x : Rx) : Prop := AltRd a sets S (textR a x) x ∧ (x.kind ≠ 4 → SeqRd a sets S (textR a x) x) ∧
  (x.kind = 2 ∨ x.kind = 4 ∨ x.kind = 5 → ∀ last, PostRd a sets S (pieceT a last x (textR a x) ((x.kids.map (textR a)).getD 0 default)) x (Bx a x))
theorem chain_q {rest : List UInt8} (hF : FS rest) : ∀ (q : List Rx) (last : Int), (∀ x ∈ q, Nf x ∧ knownR a x = true ∧ (x.kind = 2 ∨ x.kind = 4 ∨ x.kind = 5) ∧ Rd a sets S x) → Chain a sets S (textQ a last q) rest q
  | [], last, _ => by rw [textQ]; exact .nil
  | x :: q, last, h => by
    obtain ⟨h1, h2, h3, h4⟩ := h x List.mem_cons_self
    have hq := fun y hy => h y (List.mem_cons_of_mem x hy)
    have ih := chain_q hF q (bareR a x) hq
    rw [textQ_cons]
    have key : FP (textQ a (bareR a x) q ++ rest) ∧ Bx a x (textQ a (bareR a x) q ++ rest) := by
      cases q with
      | nil => rw [textQ]; exact ⟨hF.fp, .inr hF.res⟩
      | cons y q =>
        obtain ⟨k1, k2, k3, k4⟩ := hq y List.mem_cons_self
        obtain ⟨c, r, g1, g2, g3, g4⟩ := piece_lead hA k1 k2 k3 (bareR a x)
        rw [textQ_cons, g1]
        refine ⟨fun d s e => ?_, ?_⟩
        · injection e with e1 _
          rw [← e1]; exact ⟨g2, g3⟩
        · cases hl : longR a (bareR a x) with
          | false => exact .inl hl
          | true => exact .inr (.inr ⟨c, _, rfl, g4 hl⟩)
    exact .cons (h4.2.2 h3 last) key.1 key.2 ih
theorem rd_all : ∀ (m : Nat) (x : Rx), x.size ≤ m → Nf x → knownR a x = true → Rd a sets S x
  | 0, x, hm, _, _ => by have := size_pos x; omega
  | m + 1, x, hm, hx, hk => by
    have hkids : ∀ y ∈ x.kids, Nf y ∧ knownR a y = true ∧ Rd a sets S y := fun y hy => by
      have h1 := nf_kids hx y hy
      have h2 := known_kids hk y hy
      exact ⟨h1, h2, rd_all m y (by have := size_kid hy; omega) h1 h2⟩
    have hkd := hx.kinds
    by_cases k0 : x.kind = 0
    · obtain rfl := hx.k0 k0
      have hs : SeqRd a sets S (textR a noneRx) noneRx := by
        rw [textR_0 rfl]
        exact post_seq hA (B := fun _ => True) (post_atom .none (by decide) fun k rest hS _ => tk_null hA hS) (fun _ _ => trivial) (seqN_one ⟨by decide, by decide⟩ fun _ => rfl)
      exact ⟨seq_alt hA hs rfl, fun _ => hs, fun q => by simp [Rx.kind] at q⟩
    by_cases k1 : x.kind = 1
    · obtain rfl := hx.k1 k1
      have hs : SeqRd a sets S (textR a emptyRx) emptyRx := by
        rw [textR_1 rfl]
        exact chain_seq hA (q := []) (fun rest _ => .nil) rfl
      exact ⟨seq_alt hA hs (altN_one .empty ⟨by decide, by decide⟩), fun _ => hs, fun q => by simp [Rx.kind] at q⟩
    by_cases k2 : x.kind = 2
    · obtain ⟨e, h3⟩ := hx.k2 k2
      have hsy := nf_syms hx hk
      have hp := set_post (sets := sets) (S := S) hA h3 hsy
      rw [show oneR x.syms = x from e.symm, ← textR_2 k2] at hp
      have hs : SeqRd a sets S (textR a x) x := post_seq hA hp (fun rest hF => .inr hF.res) (seqN_one ⟨by omega, by omega⟩ fun q => absurd q k0)
      have ha : AltRd a sets S (textR a x) x := seq_alt hA hs (altN_one hx ⟨by omega, by omega⟩)
      refine ⟨ha, fun _ => hs, fun _ last => ?_⟩
      by_cases p1 : longR a last = true ∧ 0 ≤ bareR a x
      · rw [piece_1 p1.1 p1.2]; exact post_par hA ha
      · rw [piece_3 p1 (fun q => by omega)]
        have e1 : partT x false (textR a x) = textR a x := by unfold partT; rw [if_neg (fun q => by simp at q; omega)]
        rw [e1]; exact hp
    by_cases k3 : x.kind = 3
    · obtain ⟨e, h1, h2, h3⟩ := hx.k3 k3
      have hs : SeqRd a sets S (textR a x) x := by
        rw [textR_3 k3]
        refine chain_seq hA (q := x.kids) (fun rest hF => chain_q hA hF x.kids (-1) fun y hy => ?_) ?_
        · have h5 := hkids y hy
          have h6 := h3 y hy
          have h7 := h5.1.kinds
          exact ⟨h5.1, h5.2.1, by omega, h5.2.2⟩
        · rw [seqN_self h1 h3]; exact e.symm
      exact ⟨seq_alt hA hs (altN_one hx ⟨by omega, by omega⟩), fun _ => hs, fun q => by omega⟩
    by_cases k4 : x.kind = 4
    · obtain ⟨e, h1, h2, h3, h4, h5, h6⟩ := hx.k4 k4
      have hl : ∀ l : List Rx, (∀ y ∈ l, y ∈ x.kids) → Seqs a sets S (l.map (textR a)) l := by
        intro l hl
        induction l with
        | nil => exact .nil
        | cons y l ih =>
          have hy := hl y List.mem_cons_self
          exact .cons ((hkids y hy).2.2.2.1 (h3 y hy).2) (ih fun w hw => hl w (List.mem_cons_of_mem _ hw))
      have ha : AltRd a sets S (textR a x) x := by
        rw [textR_4 k4]
        exact seqs_alt hA (hl x.kids fun y hy => hy) (by intro q; have := congrArg List.length q; rw [List.length_map, List.length_nil] at this; omega) (by rw [altN_self h1 h2 h3 h4 h5 h6]; exact e.symm)
      refine ⟨ha, fun q => absurd k4 q, fun _ last => ?_⟩
      have hb := bare_not (a := a) (x := x) (by omega)
      rw [piece_3 (fun q => by have := q.2; omega) (fun q => by omega)]
      have e1 : partT x false (textR a x) = [40] ++ textR a x ++ [41] := by unfold partT; rw [if_pos (.inl k4)]
      rw [e1]; exact post_par hA ha
    · have k5 : x.kind = 5 := by omega
      obtain ⟨z, e, hz, h1, h2⟩ := hx.k5 k5
      subst e
      obtain ⟨hz1, hz2, hz3⟩ := hkids z (List.mem_singleton.2 rfl)
      have hs5 := starN_self h1 h2 hz
      have e1 : textR a (.mk 5 [] [z]) = partT z true (textR a z) ++ [42] := by rw [textR_5 (r := .mk 5 [] [z]) rfl (Nat.succ_pos _)]; rfl
      have hp := star_post (sets := sets) (S := S) hA hz hz2 h1 hs5 hz3.1
      rw [← e1] at hp
      have hs : SeqRd a sets S (textR a (.mk 5 [] [z])) (.mk 5 [] [z]) := post_seq hA hp (fun _ _ => trivial) (seqN_one ⟨by simp [Rx.kind], by simp [Rx.kind]⟩ fun q => by simp [Rx.kind] at q)
      refine ⟨seq_alt hA hs (altN_one hx ⟨by simp [Rx.kind], by simp [Rx.kind]⟩), fun _ => hs, fun _ last => ?_⟩
      have hb := bare_not (a := a) (x := .mk 5 [] [z]) (by simp [Rx.kind])
      by_cases p2 : longR a last = true ∧ (Rx.mk 5 [] [z]).kind = 5 ∧ 0 ≤ bareR a ((Rx.mk 5 [] [z]).kids.getD 0 default)
      · rw [piece_2 p2.1 (by omega) p2.2.1 p2.2.2]
        exact (post_pars (B := fun _ => True) hA hs5 hz3.1).any
      · rw [piece_3 (fun q => by have := q.2; omega) p2]
        have e2 : partT (.mk 5 [] [z]) false (textR a (.mk 5 [] [z])) = textR a (.mk 5 [] [z]) := by unfold partT; rw [if_neg (fun q => by simp [Rx.kind] at q)]
        rw [e2]; exact hp.any
theorem parse_text {x : Rx} (hx : Nf x) (hk : knownR a x = true) (hl : (textR a x).length ≤ 1024) : parseP a sets (textR a x) = (x, -1) := by
  rw [← rParse_eq]
  obtain ⟨y, e1, e2⟩ := (rd_all (sets := sets) (S := textR a x) hA _ x (Nat.le_refl _) hx hk).1 0 (textR a x).length (-1) [] (by decide) (by rw [List.append_nil]; rfl) (.inl rfl) (by omega) (Nat.zero_le _)
  have e3 : rTop a sets (textR a x) = (y, ⟨0 + (textR a x).length, -1⟩) := e1
  have e4 : rFin (textR a x) ⟨0 + (textR a x).length, -1⟩ = ⟨0 + (textR a x).length, -1⟩ := if_neg fun q => by
    have q2 : 0 + (textR a x).length < (textR a x).length := q.2
    omega
  unfold rParseP
  rw [if_neg (by rw [hA]; decide), if_neg (by omega), e3]
  show (if (0 : Int) ≤ (rFin (textR a x) ⟨0 + (textR a x).length, -1⟩).bad then _ else _) = _
  rw [e4, if_neg (by show ¬ (0 : Int) ≤ -1; decide)]
  unfold simR
  rw [if_pos e2.1, e2.2]
end
end Go.Wb

namespace Go.Wb
set_option linter.unusedVariables false
set_option linter.unusedSimpArgs false
open Go.Am
mutual
def dZ : Rx → Nat
  | .mk k s l => if k = 4 then 2 + dZs l else if k = 3 then 2 + Zq l else if k = 5 then 2 + dZs l + (Rx.mk k s l).size else 2
def dZs : List Rx → Nat
  | [] => 0
  | x :: l => dZ x + dZs l
def Zq : List Rx → Nat
  | [] => 0
  | x :: l => 2 + dZ x + Rx.sizes l + Zq l
end
theorem Nf.kid {x y : Rx} (h : Nf x) (hy : y ∈ x.kids) : Nf y := by
  cases h with
  | none => cases hy
  | empty => cases hy
  | set h => cases hy
  | seq h1 h2 h3 => exact h2 y hy
  | alt h1 h2 h3 h4 h5 h6 => exact h2 y hy
  | star h1 h2 h3 => rw [List.mem_singleton.1 hy]; exact h1
def WW : List (List Rx) → Nat
  | [] => 0
  | L :: l => 2 + Zq L + WW l
def sumTo (g : Nat → Nat) : Nat → Nat
  | 0 => g 0
  | n + 1 => sumTo g n + g (n + 1)
def sumP (g : Nat → Nat) : Nat → Nat
  | 0 => 0
  | n + 1 => sumP g n + g (n + 1)
structure Tab (C N R : Nat) (f F s S a A g G : Nat → Nat → Nat) : Prop where
  fa : ∀ c, c ≤ C → ∀ n, n ≤ N → f c n ≤ a c n ∧ F c n ≤ A c n
  sa : ∀ c, c ≤ C → ∀ n, n ≤ N → s c n ≤ a c n ∧ S c n ≤ A c n
  ag : ∀ c, c ≤ C → ∀ n, n ≤ N → a c n ≤ g c n ∧ A c n ≤ G c n
  fg : ∀ c, c ≤ C → ∀ n, n ≤ N → sumTo (fun j => 1 + f c j) n ≤ g c n ∧ sumTo (fun j => 10 + 2 * F c j + (1 + f c j) * R) n ≤ G c n
  sg : ∀ c, c ≤ C → ∀ n, n ≤ N → sumTo (fun j => s c j) n ≤ g c n ∧ sumTo (fun j => S c j + s c j * R) n ≤ G c n
  st : ∀ c, 2 ≤ c → c < C → ∀ n, n ≤ N → 1 + sumP (fun j => 1 + f c j) n ≤ s (c + 1) n ∧ 2 + R + sumP (fun j => 10 + 2 * F c j + (1 + f c j) * R) n ≤ S (c + 1) n
  alt : ∀ c, 1 ≤ c → c ≤ C → ∀ d, 1 ≤ d → d ≤ C - c → ∀ n, n ≤ N → a c n + a d n ≤ f (c + d) n ∧ A c n + A d n ≤ F (c + d) n
  seq : ∀ c, 2 ≤ c → c ≤ C → ∀ d, 2 ≤ d → d ≤ C - c → ∀ n, n ≤ N → g c n + g d n ≤ f (c + d) n ∧ G c n + G d n ≤ F (c + d) n
section
variable {C N R Z : Nat} {f F s S a A g G : Nat → Nat → Nat}
def Bd (N : Nat) (f F s S : Nat → Nat → Nat) (x : Rx) : Prop := ∀ v : List Int, v.length ≤ N →
  (x.kind ≠ 5 → (covT x v).length ≤ f (wtR x) v.length ∧ WW (covT x v) ≤ F (wtR x) v.length) ∧ (x.kind = 5 → (covT x v).length ≤ s (wtR x) v.length ∧ WW (covT x v) ≤ S (wtR x) v.length)
end
end Go.Wb

