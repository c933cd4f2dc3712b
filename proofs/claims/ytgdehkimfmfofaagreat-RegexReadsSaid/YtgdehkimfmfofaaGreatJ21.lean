/-
  Methods with three results, the middle one in a variable of its own, that turn what the caller owns.
-/
import Derived.Test.YtgdehkimfmfofaaGreatJ20
import Derived.Test.YtgdehkimfmfofaaGreatJ11
import Derived.Test.YtgdehkimfmfofaaGreatJ19
set_option linter.unusedVariables false
set_option linter.unusedSimpArgs false
namespace Go.Wb
set_option linter.unusedVariables false
open Go.Am Go.Wc
def tkR (a : List Letter) (sets : List SetT) (S : List UInt8) (k : Nat) : Int × Rx × Nat := if S.length ≤ k then (101, noneRx, 0) else tokAt a sets (S.drop k)
section
variable {a : List Letter} {sets : List SetT} {S t : List UInt8}
theorem tkR_end {k : Nat} (h : S.length ≤ k) : tkR a sets S k = (101, noneRx, 0) := if_pos h
theorem tkR_in {k : Nat} (h : k < S.length) : tkR a sets S k = tokAt a sets (S.drop k) := if_neg (by omega)
theorem tokAt_pos (h : (tokAt a sets t).1 ≠ 0) : 0 < (tokAt a sets t).2.2 := by
  unfold tokAt at *
  split at h
  · next q => rw [if_pos q]; exact q
  · next q =>
    rw [if_neg q]
    split at h
    · next q => rw [if_pos q]; exact Nat.one_pos
    · next q =>
      rw [if_neg q]
      split at h
      · next q => rw [if_pos q]; exact Nat.one_pos
      · next q =>
        rw [if_neg q]
        split at h
        · next q => rw [if_pos q]; exact Nat.one_pos
        · next q =>
          rw [if_neg q]
          split at h
          · next q => rw [if_pos q]; exact Nat.one_pos
          · next q =>
            rw [if_neg q]
            split at h
            · exact absurd rfl h
            · next q =>
              rw [if_neg q]
              split at h
              · next q => rw [if_pos q]; exact Nat.two_pos
              · next q =>
                rw [if_neg q]
                split at h
                · next q => rw [if_pos q]; exact Nat.succ_pos _
                · exact absurd rfl h
theorem tokAt_bd : 0 ≤ (tokAt a sets t).1 ∧ (tokAt a sets t).1 ≤ 255 := by
  unfold tokAt
  repeat' split
  all_goals first | decide | (have := (t.getD 0 default).toNat_lt; constructor <;> simp only <;> omega)
theorem tokAt_ne : (tokAt a sets t).1 ≠ 101 := by
  have e0 : (97 : Int) ≠ 101 := by decide
  have e1 : (0 : Int) ≠ 101 := by decide
  unfold tokAt
  split
  · exact e0
  · split
    · exact e0
    · split
      · exact e0
      · split
        · exact e0
        · split
          · next q =>
            intro e
            have e' : ((t.getD 0 default).toNat : Int) = 101 := e
            have e2 : t.getD 0 default = 101 := UInt8.toNat_inj.1 (by rw [show (101 : UInt8).toNat = 101 from rfl]; omega)
            rw [e2] at q
            revert q; decide
          · split
            · exact e1
            · split
              · exact e0
              · split
                · exact e0
                · exact e1
theorem tkR_ok (ha : 1 ≤ a.length ∧ a.length ≤ 60) : TkOk (tkR a sets S) S.length where
  le := fun k hk => by
    by_cases h : S.length ≤ k
    · rw [tkR_end h]; exact hk
    · have h1 := tokAt_len (a := a) (sets := sets) (t := S.drop k) (by rw [List.length_drop]; omega)
      rw [List.length_drop] at h1
      rw [tkR_in (by omega)]; omega
  lt := fun k hk h0 h1 => by
    by_cases h : S.length ≤ k
    · rw [tkR_end h] at h1; exact absurd rfl h1
    · rw [tkR_in (by omega)] at h0 ⊢; exact tokAt_pos h0
  at_ := fun k => by
    by_cases h : S.length ≤ k
    · rw [tkR_end h]; decide
    · rw [tkR_in (by omega)]; exact (tokAt_ok ha).2
  nf := fun k => by
    by_cases h : S.length ≤ k
    · rw [tkR_end h]; exact .none
    · rw [tkR_in (by omega)]; exact (tokAt_ok ha).1
  bd := fun k => by
    by_cases h : S.length ≤ k
    · rw [tkR_end h]; decide
    · rw [tkR_in (by omega)]; exact tokAt_bd
theorem tokN_tks (ha : 1 ≤ a.length ∧ a.length ≤ 60) : Tks (tkR a sets S) S.length (tokN a sets S) where
  ok := tkR_ok ha
  hd := fun n k h1 h2 => by
    by_cases h : S.length ≤ k
    · rw [tokN_end h, tkR_end h]; exact ⟨rfl, rfl⟩
    · obtain ⟨n, rfl⟩ : ∃ n', n = n' + 1 := ⟨n - 1, by omega⟩
      rw [tkR_in (by omega), tokN, if_pos (by omega)]
      split
      · next q => exact ⟨q.symm, rfl⟩
      · exact ⟨rfl, rfl⟩
  atm := fun n k h1 h2 h3 h4 => by
    by_cases h : S.length ≤ k
    · rw [tkR_end h] at h4; exact absurd rfl h4
    · obtain ⟨n, rfl⟩ : ∃ n', n = n' + 1 := ⟨n - 1, by omega⟩
      have hp := (tkR_ok (sets := sets) (S := S) ha).lt k h2 h3 h4
      rw [tkR_in (by omega)] at h3 h4 hp ⊢
      rw [tokN, if_pos (by omega), if_neg h3]
      exact ⟨rfl, n, by omega, rfl⟩
  en := fun n k => ⟨(tokN_good (sets := sets) (s := S) ha n k).1, (tokN_good (sets := sets) (s := S) ha n k).2.1⟩
def rTop (a : List Letter) (sets : List SetT) (S : List UInt8) : Rx × RS := rAltR (tkR a sets S) (S.length + 1) (rSeq (tkR a sets S) (S.length + 1) (rPost (tkR a sets S) (S.length + 1) S.length)) ⟨0, -1⟩
def rFin (S : List UInt8) (s : RS) : RS := if s.bad < 0 ∧ s.k < S.length then ⟨s.k, s.k⟩ else s
def rParseP (a : List Letter) (sets : List SetT) (S : List UInt8) : Rx × Int :=
  if validA a = false then (noneRx, 0) else if 1024 < S.length then (noneRx, 1024) else if 0 ≤ (rFin S (rTop a sets S).2).bad then (noneRx, (rFin S (rTop a sets S).2).bad) else (simR (rTop a sets S).1, -1)
theorem rTop_ok (ha : 1 ≤ a.length ∧ a.length ≤ 60) : (rTop a sets S).1.size ≤ 70 * S.length + 2 ∧ (rTop a sets S).2.k ≤ S.length := by
  obtain ⟨h1, h2, h3⟩ := rAlt_ok (N := S.length + 1) (tkR_ok (sets := sets) (S := S) ha) (rSeq_ok (N := S.length + 1) (rPost_ok (N := S.length + 1) (tkR_ok (sets := sets) (S := S) ha) S.length)) ⟨0, -1⟩ (Nat.zero_le _) (by show S.length ≤ 0 + S.length; omega) (by show (-1 : Int) < 0; decide)
  have h3' : (rTop a sets S).1.size + 70 * 0 ≤ 70 * (rTop a sets S).2.k + 2 := h3
  have h2' : (rTop a sets S).2.k ≤ S.length := h2
  omega
theorem rParse_eq : rParseP a sets S = parseP a sets S := by
  unfold rParseP parseP
  split
  · rfl
  · next hv =>
    split
    · rfl
    · next hS =>
      have ha := validA_bd (a := a) (by revert hv; cases validA a <;> decide)
      have hT := tokN_tks (sets := sets) (S := S) ha
      have hc : Cr (tkR a sets S) S.length (tokN a sets S) ⟨0, -1⟩ ⟨toksP a sets S, -1⟩ := ⟨rfl, Nat.zero_le _, S.length, by show S.length ≤ 0 + S.length; omega, rfl⟩
      have hb := alt_both hT (seq_both (N := S.length + 1) hT (post_both (N := S.length + 1) hT (Nat.le_refl _) S.length (toksP a sets S).length) (rPost_ok hT.ok _) (pPost_ok _) (by omega)) (rSeq_ok (rPost_ok hT.ok _)) (pSeq_ok (pPost_ok _)) (Nat.le_refl _)
        ⟨0, -1⟩ ⟨toksP a sets S, -1⟩ hc (by show (-1 : Int) < 0; decide) (by show S.length ≤ 0 + S.length; omega) (Nat.le_refl _)
      have hb' : Both (tkR a sets S) S.length (tokN a sets S) Raw (rTop a sets S) (pAlt (pSeq (pPost (toksP a sets S).length)) ⟨toksP a sets S, -1⟩) := hb
      unfold pTop
      generalize rTop a sets S = r at *
      generalize pAlt (pSeq (pPost (toksP a sets S).length)) ⟨toksP a sets S, -1⟩ = p at *
      obtain ⟨h1, h2⟩ := hb'
      by_cases hbd : r.2.bad < 0
      · obtain ⟨h3, h4⟩ := h2 hbd
        have eh := h3.hd hT
        by_cases hk : r.2.k < S.length
        · have e1 : (rFin S r.2) = ⟨r.2.k, r.2.k⟩ := if_pos ⟨hbd, hk⟩
          have hne : p.2.hd ≠ 101 := by
            rw [eh]
            show (tkR a sets S r.2.k).1 ≠ 101
            rw [tkR_in hk]
            exact tokAt_ne
          have e2 : finP p.2 = p.2.fail := if_pos ⟨by omega, hne⟩
          have e3 : p.2.fail.bad = r.2.k := by unfold PS.fail; rw [if_pos (by omega)]; exact h3.pos hT
          have e4 : (0 : Int) ≤ (r.2.k : Int) := Int.natCast_nonneg _
          rw [e1, e2, e3]
          show (if (0 : Int) ≤ (r.2.k : Int) then (noneRx, (r.2.k : Int)) else _) = _
          rw [if_pos e4, if_pos e4]
        · have e1 : (rFin S r.2) = r.2 := if_neg fun q => hk q.2
          have e2 : finP p.2 = p.2 := if_neg fun q => q.2 (by
            rw [eh]; show (tkR a sets S r.2.k).1 = 101; rw [tkR_end (by omega)])
          rw [e1, e2, if_neg (by omega), if_neg (by omega)]
          unfold simR
          rw [if_pos h4.1, h4.2]
      · have e1 : (rFin S r.2) = r.2 := if_neg fun q => hbd q.1
        have e2 : finP p.2 = p.2 := if_neg fun q => hbd (by omega)
        rw [e1, e2, if_pos (by omega), if_pos (by omega), h1]
theorem parse_small (h : S.length ≤ 1024) : (parseP a sets S).1.size ≤ 150000 := by
  rw [← rParse_eq]
  unfold rParseP
  have e : (noneRx).size ≤ 150000 := by decide
  split
  · exact e
  · next hv =>
    split
    · exact e
    · split
      · exact e
      · have ha := validA_bd (a := a) (by revert hv; cases validA a <;> decide)
        have h1 := (rTop_ok (sets := sets) (S := S) ha).1
        have h2 := size_simR (rTop a sets S).1
        show (simR (rTop a sets S).1).size ≤ 150000
        omega
theorem text_pos (h : validA a = true) {i : Nat} (hi : i < a.length) : 0 < (a.getD i default).text.length ∧ (a.getD i default).text.length ≤ 4 := by
  have h1 := ((of_decide_eq_true (p := validP a) h).2 i hi).1.1
  unfold plainT at h1
  rw [Bool.and_eq_true, Bool.and_eq_true, decide_eq_true_eq, decide_eq_true_eq] at h1
  omega
def bstR (a : List Letter) (t : List UInt8) (i : Nat) : Int := if (bestN a t i).2 = 0 then -1 else ((bestN a t i).1 : Int)
theorem best_len : ∀ i, 0 < (bestN a t i).2 → (a.getD (bestN a t i).1 default).text.length = (bestN a t i).2
  | 0, h => absurd (show 0 < 0 from h) (by decide)
  | i + 1, h => by
    rw [bestN] at h ⊢
    split at h
    · next q => rw [if_pos q]
    · next q => rw [if_neg q]; exact best_len i h
theorem bstR_bd (i : Nat) : -1 ≤ bstR a t i ∧ (0 ≤ bstR a t i → bstR a t i < i) := by
  unfold bstR
  split
  · exact ⟨by omega, fun h => by omega⟩
  · next q =>
    rcases bestN_lt (a := a) (t := t) i with h | h
    · exact absurd h.1 q
    · exact ⟨by omega, fun _ => by omega⟩
theorem bstR_len {i : Nat} (h : 0 ≤ bstR a t i) : (a.getD (bstR a t i).toNat default).text.length = (bestN a t i).2 ∧ 0 < (bestN a t i).2 := by
  unfold bstR at *
  split at h
  · omega
  · next q => rw [if_neg q]; exact ⟨best_len i (by omega), by omega⟩
theorem bstR_neg {i : Nat} (h : bstR a t i < 0) : (bestN a t i).2 = 0 := by
  unfold bstR at h
  split at h
  · next q => exact q
  · omega
theorem bstR_yes0 {i : Nat} (h : preB t (a.getD i default).text = true) (hp : 0 < (a.getD i default).text.length) (h0 : bstR a t i < 0) : bstR a t (i + 1) = i := by
  unfold bstR
  rw [bestN_yes (by rw [bstR_neg h0]; exact hp) h]
  exact if_neg (by show ¬ (a.getD i default).text.length = 0; omega)
theorem bstR_yes {i : Nat} (h : preB t (a.getD i default).text = true) (h0 : 0 ≤ bstR a t i) (h1 : (a.getD (bstR a t i).toNat default).text.length < (a.getD i default).text.length) : bstR a t (i + 1) = i := by
  have h2 := bstR_len h0
  unfold bstR
  rw [bestN_yes (by omega) h]
  exact if_neg (by show ¬ (a.getD i default).text.length = 0; omega)
theorem bstR_no {i : Nat} (h : preB t (a.getD i default).text = false) : bstR a t (i + 1) = bstR a t i := by
  unfold bstR
  rw [bestN_no fun q => by rw [h] at q; exact absurd q.2 (by decide)]
theorem bstR_no2 {i : Nat} (h0 : 0 ≤ bstR a t i) (h1 : ¬ (a.getD (bstR a t i).toNat default).text.length < (a.getD i default).text.length) : bstR a t (i + 1) = bstR a t i := by
  have h2 := bstR_len h0
  unfold bstR
  rw [bestN_no fun q => by omega]
theorem tk_letter {k : Nat} (hk : k < S.length) (h : 0 ≤ bstR a (S.drop k) a.length) : tkR a sets S k = (97, oneR [bstR a (S.drop k) a.length], (a.getD (bstR a (S.drop k) a.length).toNat default).text.length) := by
  have h2 := bstR_len h
  rw [tkR_in hk, tokAt_best h2.2, h2.1]
  have e : bstR a (S.drop k) a.length = ((bestN a (S.drop k) a.length).1 : Int) := if_neg (by omega)
  rw [e]
variable {k : Nat} (hk : k < S.length) (hb : bstR a (S.drop k) a.length < 0)
include hk hb
theorem tk_mark (h : (((S.drop k).getD 0 default).toNat : Int) = 124 ∨ (((S.drop k).getD 0 default).toNat : Int) = 40 ∨ (((S.drop k).getD 0 default).toNat : Int) = 41 ∨ (((S.drop k).getD 0 default).toNat : Int) = 42 ∨ (((S.drop k).getD 0 default).toNat : Int) = 63) :
    tkR a sets S k = ((((S.drop k).getD 0 default).toNat : Int), noneRx, 1) := by
  have hn := bstR_neg hb
  rw [tkR_in hk, tokAt_mark (by omega) (by omega) (by omega) (by omega)]
  have e : ∀ n : Nat, n < 256 → (((S.drop k).getD 0 default).toNat : Int) = n → (S.drop k).getD 0 default = UInt8.ofNat n := fun n hn e => UInt8.toNat_inj.1 (by rw [UInt8.toNat_ofNat']; omega)
  rcases h with h | h | h | h | h
  · rw [e 124 (by decide) h]; decide
  · rw [e 40 (by decide) h]; decide
  · rw [e 41 (by decide) h]; decide
  · rw [e 42 (by decide) h]; decide
  · rw [e 63 (by decide) h]; decide
theorem tk_minus (h : (((S.drop k).getD 0 default).toNat : Int) = 45) : tkR a sets S k = (97, oneR [63], 1) := by
  have hn := bstR_neg hb
  rw [tkR_in hk, tokAt_minus (by omega) (by omega) h]
theorem tk_hash (h : (((S.drop k).getD 0 default).toNat : Int) = 35) : tkR a sets S k = (97, oneR [62], 1) := by
  have hn := bstR_neg hb
  rw [tkR_in hk, tokAt_hash (by omega) (by omega) (by omega) h]
theorem tk_dot (h : (((S.drop k).getD 0 default).toNat : Int) = 46) : tkR a sets S k = (97, oneR ((List.range a.length).map fun (k : Nat) => (k : Int)), 1) := by
  have hn := bstR_neg hb
  rw [tkR_in hk, tokAt_dot (by omega) h]
omit hk hb in
theorem ib_none {l : List UInt8} {c : UInt8} (h : ∀ j, j < l.length → l.getD j default ≠ c) : Lib.indexByte l c = -1 := by
  induction l with
  | nil => rfl
  | cons b l ih =>
    have h0 := h 0 (Nat.succ_pos _)
    have h1 := ih fun j hj => h (j + 1) (Nat.succ_lt_succ hj)
    have hb : (b == c) = false := beq_eq_false_iff_ne.2 h0
    unfold Lib.indexByte
    rw [if_neg (by rw [hb]; decide), if_pos (by rw [h1]; decide)]
omit hk hb in
theorem ib_hit {c : UInt8} : ∀ {l : List UInt8} {m : Nat}, m < l.length → (∀ j, j < m → l.getD j default ≠ c) → l.getD m default = c → Lib.indexByte l c = m
  | [], m, hm, _, _ => absurd hm (Nat.not_lt_zero _)
  | b :: l, 0, _, _, h => by
    have hb : (b == c) = true := beq_iff_eq.2 h
    unfold Lib.indexByte; exact if_pos hb
  | b :: l, m + 1, hm, h, h1 => by
    have h0 := h 0 (Nat.succ_pos _)
    have h2 := ib_hit (l := l) (m := m) (Nat.lt_of_succ_lt_succ hm) (fun j hj => h (j + 1) (Nat.succ_lt_succ hj)) h1
    have hb : (b == c) = false := beq_eq_false_iff_ne.2 h0
    unfold Lib.indexByte
    rw [if_neg (by rw [hb]; decide), if_neg (by rw [h2, beq_iff_eq]; omega), h2]; rfl
omit hk hb in
theorem b125 {c : UInt8} : (c.toNat : Int) = 125 ↔ c = 125 := ⟨fun h => UInt8.toNat_inj.1 (by rw [show (125 : UInt8).toNat = 125 from rfl]; omega), fun h => by rw [h]; rfl⟩
def noMk (c : Int) : Prop := c ≠ 124 ∧ c ≠ 40 ∧ c ≠ 41 ∧ c ≠ 42 ∧ c ≠ 63 ∧ c ≠ 45 ∧ c ≠ 35 ∧ c ≠ 46
theorem tk_rest (h : noMk (((S.drop k).getD 0 default).toNat : Int)) : tkR a sets S k = if (((S.drop k).getD 0 default).toNat : Int) ≠ 123 ∨ Lib.indexByte ((S.drop k).drop 1) 125 < 0 then (0, noneRx, 0) else if nameB (S.drop k) = [] then (97, noneRx, 2)
      else if 0 ≤ idxF (fun x : SetT => decide (x.name = nameB (S.drop k))) sets ∧ setOk (sets.getD (idxF (fun x : SetT => decide (x.name = nameB (S.drop k))) sets).toNat default).syms = true then
        (97, oneR (sets.getD (idxF (fun x : SetT => decide (x.name = nameB (S.drop k))) sets).toNat default).syms, (nameB (S.drop k)).length + 2) else (0, noneRx, 0) := by
  have hn := bstR_neg hb
  obtain ⟨h1, h2, h3, h4, h5, h6, h7, h8⟩ := h
  rw [tkR_in hk, tokAt_rest (by omega) (by omega) (by omega) (by omega)]
  intro q
  have q' : 0 ≤ Lib.indexByte [124, 40, 41, 42, 63] ((S.drop k).getD 0 default) := q
  have e : ∀ c : UInt8, 0 ≤ Lib.indexByte [124, 40, 41, 42, 63] c → c = 124 ∨ c = 40 ∨ c = 41 ∨ c = 42 ∨ c = 63 := fun c hc => by
    have h := Lib.contains_iff_indexByte [124, 40, 41, 42, 63] c
    rw [decide_eq_true hc] at h
    have h2 := List.contains_iff_mem.1 h
    simpa using h2
  rcases e _ q' with e | e | e | e | e <;> rw [e] at h1 h2 h3 h4 h5
  · exact h1 rfl
  · exact h2 rfl
  · exact h3 rfl
  · exact h4 rfl
  · exact h5 rfl
def NoBr (t : List UInt8) (e : Nat) : Prop := 1 ≤ e ∧ e ≤ t.length ∧ ∀ j, 1 ≤ j → j < e → t.getD j default ≠ 125
omit hk hb in
theorem NoBr.one {t : List UInt8} (h : 0 < t.length) : NoBr t 1 := ⟨Nat.le_refl _, h, fun j h1 h2 => by omega⟩
omit hk hb in
theorem NoBr.step {t : List UInt8} {e : Nat} (h : NoBr t e) (h1 : e < t.length) (h2 : ((t.getD e default).toNat : Int) ≠ 125) : NoBr t (e + 1) := ⟨by omega, h1, fun j h3 h4 => by
  by_cases q : j = e
  · rw [q]; exact fun e => h2 (b125.2 e)
  · exact h.2.2 j h3 (by omega)⟩
omit hk hb in
theorem NoBr.all {t : List UInt8} {e : Nat} (h : NoBr t e) (h1 : e = t.length) : Lib.indexByte (t.drop 1) 125 = -1 := ib_none fun j hj => by
  rw [List.length_drop] at hj
  rw [getD_dropk]; exact h.2.2 (1 + j) (by omega) (by omega)
omit hk hb in
theorem NoBr.at_ {t : List UInt8} {e : Nat} (h : NoBr t e) (h1 : e < t.length) (h2 : ((t.getD e default).toNat : Int) = 125) : Lib.indexByte (t.drop 1) 125 = ((e - 1 : Nat) : Int) ∧ nameB t = (t.drop 1).take (e - 1) := by
  have h3 := h.1
  have e1 : Lib.indexByte (t.drop 1) 125 = ((e - 1 : Nat) : Int) := ib_hit (by rw [List.length_drop]; omega) (fun j hj => by rw [getD_dropk]; exact h.2.2 (1 + j) (by omega) (by omega)) (by rw [getD_dropk, show 1 + (e - 1) = e by omega]; exact b125.1 h2)
  refine ⟨e1, ?_⟩
  unfold nameB cutB
  rw [e1, if_pos (Int.natCast_nonneg _)]; rfl
theorem tk_no (h : noMk (((S.drop k).getD 0 default).toNat : Int)) {e : Nat} (hN : NoBr (S.drop k) e) (h1 : (((S.drop k).getD 0 default).toNat : Int) ≠ 123 ∨ e = (S.drop k).length) : tkR a sets S k = (0, noneRx, 0) := by
  rw [tk_rest hk hb h, if_pos]
  rcases h1 with h1 | h1
  · exact .inl h1
  · exact .inr (by rw [hN.all h1]; decide)
theorem tk_brace (h : noMk (((S.drop k).getD 0 default).toNat : Int)) {e : Nat} (hN : NoBr (S.drop k) e) (h0 : (((S.drop k).getD 0 default).toNat : Int) = 123) (h1 : e < (S.drop k).length) (h2 : (((S.drop k).getD e default).toNat : Int) = 125) (he : e = 1) : tkR a sets S k = (97, noneRx, 2) := by
  obtain ⟨g1, g2⟩ := hN.at_ h1 h2
  subst he
  rw [tk_rest hk hb h, if_neg (fun q => by omega), if_pos (by rw [g2]; rfl)]
theorem tk_set (h : noMk (((S.drop k).getD 0 default).toNat : Int)) {e : Nat} (hN : NoBr (S.drop k) e) (h0 : (((S.drop k).getD 0 default).toNat : Int) = 123) (h1 : e < (S.drop k).length) (h2 : (((S.drop k).getD e default).toNat : Int) = 125) (he : e ≠ 1)
    {i : Nat} (hi : i < sets.length) (h3 : ∀ j, j < i → (sets.getD j default).name ≠ ((S.drop k).drop 1).take (e - 1)) (h4 : (sets.getD i default).name = ((S.drop k).drop 1).take (e - 1)) :
    tkR a sets S k = if setOk (sets.getD i default).syms = true then (97, oneR (sets.getD i default).syms, e + 1) else (0, noneRx, 0) := by
  obtain ⟨g1, g2⟩ := hN.at_ h1 h2
  have h5 := hN.1
  have hl : (((S.drop k).drop 1).take (e - 1)).length = e - 1 := by rw [List.length_take, List.length_drop]; omega
  rw [tk_rest hk hb h, if_neg (fun q => by omega), g2, if_neg (fun q => by rw [q] at hl; simp at hl; omega), ← idxF_hit (p := fun x : SetT => decide (x.name = ((S.drop k).drop 1).take (e - 1))) (l := sets) (k := i) hi (fun j hj => decide_eq_false (h3 j hj)) (decide_eq_true h4), Int.toNat_natCast, hl]
  split
  · next q => rw [if_pos q.2, show e - 1 + 2 = e + 1 by omega]
  · next q => rw [if_neg fun q2 => q ⟨Int.natCast_nonneg _, q2⟩]
theorem tk_noset (h : noMk (((S.drop k).getD 0 default).toNat : Int)) {e : Nat} (hN : NoBr (S.drop k) e) (h0 : (((S.drop k).getD 0 default).toNat : Int) = 123) (h1 : e < (S.drop k).length) (h2 : (((S.drop k).getD e default).toNat : Int) = 125) (he : e ≠ 1)
    (h3 : ∀ j, j < sets.length → (sets.getD j default).name ≠ ((S.drop k).drop 1).take (e - 1)) : tkR a sets S k = (0, noneRx, 0) := by
  obtain ⟨g1, g2⟩ := hN.at_ h1 h2
  have h5 := hN.1
  have hl : (((S.drop k).drop 1).take (e - 1)).length = e - 1 := by rw [List.length_take, List.length_drop]; omega
  rw [tk_rest hk hb h, if_neg (fun q => by omega), g2, if_neg (fun q => by rw [q] at hl; simp at hl; omega), ← idxF_none (p := fun x : SetT => decide (x.name = ((S.drop k).drop 1).take (e - 1))) (l := sets) (fun j hj => decide_eq_false (h3 j hj)), if_neg fun q => absurd q.1 (by decide)]
end
end Go.Wb

namespace Go.Am
open Go.RowKit
set_option linter.unusedVariables false
section
variable {P : Program} {w0 : Fr} {M0 : Nat → Prop}
def FnM3 (P : Program) (f : FuncId) (n t u : Nat) (T : TypeId) (k v : Nat) (c : Code) : Prop := ∃ fn, P.funcs[f]? = some fn ∧ fn.body = some c ∧ fn.ntmps = n ∧ fn.results = #[.tmp t, .cell u T, .tmp v] ∧ (fn.name == "runtime.NumGoroutine") = false ∧ isAggOf P T = some true ∧ szOf P T = some k
theorem FnM3.callable {f n t u v k : Nat} {T : TypeId} {c : Code} (h : FnM3 P f n t u T k v c) : Callable P f := by
  obtain ⟨fn, h1, h2, _, _, h5, _⟩ := h
  exact ⟨fn, h1, h5, by rw [h2]; rfl⟩
def endM3 (t u k v : Nat) (r r' r'' : AV) (o' : List (Nat × Ob)) : Exit → St → Prop
  | .normal, s | .ret, s => (s.s.lookup t = some (.v .pl r) ∧ (s.s.lookup u).bind (boxV s.o k) = some (.v .pl r') ∧ s.s.lookup v = some (.v .pl r'')) ∧ ∀ id ob, o'.lookup id = some ob → s.o.lookup id = some ob
  | _, _ => False
theorem callO_of_codeM3 {f n t u v k : Nat} {T : TypeId} {c : Code} (hf : FnM3 P f n t u T k v c) {args : List SV} {o o' : List (Nat × Ob)} {r r' r'' : AV} (hn : args.length ≤ n)
    (h : ∀ (w0 : Fr) (M0 : Nat → Prop), (∀ b, M0 b → b < w0.w.heap.size) → CodeOk P w0 M0 c (St.enterS n args o) (endM3 t u k v r r' r'' o')) : CallO P f args o (.v .pl (.tup [r, r', r''])) o' := by
  refine ⟨hf.callable, fun w0 M0 E w vs hM0 hw hv hr => ?_⟩
  obtain ⟨fn, h1, h2, h3, h4, h5, h6, h7⟩ := hf
  refine (calls_coreG h1 h2 h3 (R := fun v E' s' w' => WOk P w0 M0 E' o' w' ∧ SVok P M0 w' E' o' v (.v .pl (.tup [r, r', r'']))) hn vs hv hw hr (h w0 M0 hM0) (fun e s' a' w' E' hq hs => ?_)).mono fun e w' ⟨v, E', s', he, hR⟩ => ⟨v, E', he, hR⟩
  have fin : (s'.s.lookup t = some (.v .pl r) ∧ (s'.s.lookup u).bind (boxV s'.o k) = some (.v .pl r') ∧ s'.s.lookup v = some (.v .pl r'')) ∧ (∀ id ob, o'.lookup id = some ob → s'.o.lookup id = some ob) →
      ∃ v, (results fn a'.tmps).run P w' = .ok v w' ∧ WOk P w0 M0 E' o' w' ∧ SVok P M0 w' E' o' v (.v .pl (.tup [r, r', r''])) := fun ⟨⟨q1, hb, q3⟩, q2⟩ => by
    rw [Option.bind_eq_some_iff] at hb
    obtain ⟨sv, hl, hb⟩ := hb
    obtain ⟨x, g1, g2⟩ := run_load_box_agg h6 h7 hs.wok (hs.slots u sv hl).2 hb
    refine ⟨.tuple #[a'.tmps.getD t undef, x, a'.tmps.getD v undef], ?_, hs.wok.fewer q2, .tup [a'.tmps.getD t undef, x, a'.tmps.getD v undef] [r, r', r''] rfl (fun j d hd => by
      match j, hd with
      | 0, hd => simp at hd; subst hd; exact (hs.slots t _ q1).2.fewer q2
      | 1, hd => simp at hd; subst hd; exact g2.fewer q2
      | 2, hd => simp at hd; subst hd; exact (hs.slots v _ q3).2.fewer q2
      | j + 3, hd => simp at hd)⟩
    have g1' : ((Sem.run P (asAddr (a'.tmps[u]?.getD undef)) w').andThen fun x w => Sem.run P (loadVar T x) w) = .ok x w' := by simpa using g1
    simp [results, h4, Sem.run_bind]
    revert g1'
    cases Sem.run P (asAddr (a'.tmps[u]?.getD undef)) w' with
    | ok a w2 => intro g; simp only [Result.andThen_ok] at g ⊢; rw [g]; rfl
    | _ => intro g; exact absurd g (by simp [Result.andThen])
  cases e with
  | normal => exact ⟨.inl rfl, fin hq⟩
  | ret => exact ⟨.inr rfl, fin hq⟩
  | exit _ => exact hq.elim
  | goto _ => exact hq.elim
  | panic _ => exact hq.elim
  | outgrown => exact hq.elim
theorem callN_of_codeC2 {f n t k u : Nat} {T : TypeId} {c : Code} (hf : FnC2 P f n t T k u c) {ds : List AV} {r r' : AV} (hn : ds.length ≤ n)
    (h : ∀ (w0 : Fr) (M0 : Nat → Prop), (∀ b, M0 b → b < w0.w.heap.size) → CodeOk P w0 M0 c (St.enter n .pl ds) (endC2 t k u r r')) : CallN P f ds (.p (.tup [r, r'])) := by
  refine ⟨hf.callable, fun w M vs hM hv hr => ?_⟩
  have h0 := h (Fr.all w) M hM
  rw [enter_eq] at h0
  obtain ⟨fn, h1, h2, h3, h4, h5, h6, h7⟩ := hf
  refine (calls_coreG h1 h2 h3 (R := fun v E' s' w' => Below w.heap.size w w' ∧ RVok P w' M (fun b => b < w.heap.size) v (.p (.tup [r, r']))) (by simpa using hn) vs (by simpa using hv) wok_nil (fun j d hd => ?_) h0 (fun e s' a' w' E' hq hs => ?_)).mono fun e w' ⟨v, E', s', he, hR⟩ => ⟨v, he, hR⟩
  · rw [List.getElem?_map, Option.map_eq_some_iff] at hd
    obtain ⟨a, ha, rfl⟩ := hd
    have := hr j a ha
    exact this.weak (fun b hb => Or.elim hb id (fun h => by rw [owned_nil] at h; exact h.elim))
  · have fin : ((∃ q, ((s'.s.lookup t).bind (boxV s'.o k)).bind (retOf s'.o) = some q ∧ q.data = r) ∧ (∃ q, (s'.s.lookup u).bind (retOf s'.o) = some q ∧ q.data = r')) →
        ∃ v, (results fn a'.tmps).run P w' = .ok v w' ∧ Below w.heap.size w w' ∧ RVok P w' M (fun b => b < w.heap.size) v (.p (.tup [r, r'])) := by
      rintro ⟨⟨q1, hb, hd1⟩, ⟨q2, hu, hd2⟩⟩
      rw [Option.bind_eq_some_iff] at hb
      obtain ⟨sv', hb, hret⟩ := hb
      rw [Option.bind_eq_some_iff] at hb
      obtain ⟨sv, hl, hb⟩ := hb
      rw [Option.bind_eq_some_iff] at hu
      obtain ⟨su, hlu, hretu⟩ := hu
      obtain ⟨v, g1, g2⟩ := run_load_box_agg h6 h7 hs.wok (hs.slots t sv hl).2 hb
      have r1 := (retOf_ok hs.wok g2 hret).rep (fun b hb => hM b hb)
      have r2 := (retOf_ok hs.wok (hs.slots u su hlu).2 hretu).rep (fun b hb => hM b hb)
      rw [hd1] at r1; rw [hd2] at r2
      refine ⟨.tuple #[v, a'.tmps.getD u undef], ?_, hs.wok.below.below, .tup [v, a'.tmps.getD u undef] [r, r'] rfl (fun j d hd => by
        match j, hd with
        | 0, hd => simp at hd; subst hd; exact r1
        | 1, hd => simp at hd; subst hd; exact r2
        | j + 2, hd => simp at hd)⟩
      have g1' : ((Sem.run P (asAddr (a'.tmps[t]?.getD undef)) w').andThen fun x w => Sem.run P (loadVar T x) w) = .ok v w' := by simpa using g1
      simp [results, h4, Sem.run_bind]
      revert g1'
      cases Sem.run P (asAddr (a'.tmps[t]?.getD undef)) w' with
      | ok a w2 => intro g; simp only [Result.andThen_ok] at g ⊢; rw [g]; rfl
      | _ => intro g; exact absurd g (by simp [Result.andThen])
    cases e with
    | normal => exact ⟨.inl rfl, fin hq⟩
    | ret => exact ⟨.inr rfl, fin hq⟩
    | exit _ => exact hq.elim
    | goto _ => exact hq.elim
    | panic _ => exact hq.elim
    | outgrown => exact hq.elim
theorem endM3_ret {t u v k : Nat} {r r' r'' r1 r2 r3 : AV} {o' o1 : List (Nat × Ob)} {s : St} (h : s.s.lookup t = some (.v .pl r1)) (h' : (s.s.lookup u).bind (boxV s.o k) = some (.v .pl r2)) (h'' : s.s.lookup v = some (.v .pl r3)) (ho : HasO s o1) (e : (r1 = r ∧ r2 = r' ∧ r3 = r'') ∧ o1 = o') : endM3 t u k v r r' r'' o' .ret s := by
  obtain ⟨⟨rfl, rfl, rfl⟩, rfl⟩ := e
  exact ⟨⟨h, h', h''⟩, ho.out⟩
end
end Go.Am

