/-
  Plain functions: what is printed is read as it was.
-/
import Derived.Test.YtgdehkimfmfofaaGreatJ24
import Derived.Test.YtgdehkimfmfofaaGreatJ22
set_option linter.unusedVariables false
set_option linter.unusedSimpArgs false
namespace Go.Wb
set_option linter.unusedVariables false
open Go.Am Go.Wc
def tkR (a : List Letter) (sets : List SetT) (S : List UInt8) (k : Nat) : Int × Rx × Nat := if S.length ≤ k then (101, noneRx, 0) else tokAt a sets (S.drop k)
section
variable {a : List Letter} {sets : List SetT} {S t : List UInt8}
theorem tkR_end {k : Nat} (h : S.length ≤ k) : tkR a sets S k = (101, noneRx, 0) := if_pos h
theorem tkR_in {k : Nat} (h : k < S.length) : tkR a sets S k = tokAt a sets (S.drop k) := if_neg (by omega)
theorem tokAt_pos (h : (tokAt a sets t).1 ≠ 0) : 0 < (tokAt a sets t).2.2 := by
  unfold tokAt at *
  split at h
  · next q => rw [if_pos q]; exact q
  · next q =>
    rw [if_neg q]
    split at h
    · next q => rw [if_pos q]; exact Nat.one_pos
    · next q =>
      rw [if_neg q]
      split at h
      · next q => rw [if_pos q]; exact Nat.one_pos
      · next q =>
        rw [if_neg q]
        split at h
        · next q => rw [if_pos q]; exact Nat.one_pos
        · next q =>
          rw [if_neg q]
          split at h
          · next q => rw [if_pos q]; exact Nat.one_pos
          · next q =>
            rw [if_neg q]
            split at h
            · exact absurd rfl h
            · next q =>
              rw [if_neg q]
              split at h
              · next q => rw [if_pos q]; exact Nat.two_pos
              · next q =>
                rw [if_neg q]
                split at h
                · next q => rw [if_pos q]; exact Nat.succ_pos _
                · exact absurd rfl h
theorem tokAt_bd : 0 ≤ (tokAt a sets t).1 ∧ (tokAt a sets t).1 ≤ 255 := by
  unfold tokAt
  repeat' split
  all_goals first | decide | (have := (t.getD 0 default).toNat_lt; constructor <;> simp only <;> omega)
theorem tokAt_ne : (tokAt a sets t).1 ≠ 101 := by
  have e0 : (97 : Int) ≠ 101 := by decide
  have e1 : (0 : Int) ≠ 101 := by decide
  unfold tokAt
  split
  · exact e0
  · split
    · exact e0
    · split
      · exact e0
      · split
        · exact e0
        · split
          · next q =>
            intro e
            have e' : ((t.getD 0 default).toNat : Int) = 101 := e
            have e2 : t.getD 0 default = 101 := UInt8.toNat_inj.1 (by rw [show (101 : UInt8).toNat = 101 from rfl]; omega)
            rw [e2] at q
            revert q; decide
          · split
            · exact e1
            · split
              · exact e0
              · split
                · exact e0
                · exact e1
theorem tkR_ok (ha : 1 ≤ a.length ∧ a.length ≤ 60) : TkOk (tkR a sets S) S.length where
  le := fun k hk => by
    by_cases h : S.length ≤ k
    · rw [tkR_end h]; exact hk
    · have h1 := tokAt_len (a := a) (sets := sets) (t := S.drop k) (by rw [List.length_drop]; omega)
      rw [List.length_drop] at h1
      rw [tkR_in (by omega)]; omega
  lt := fun k hk h0 h1 => by
    by_cases h : S.length ≤ k
    · rw [tkR_end h] at h1; exact absurd rfl h1
    · rw [tkR_in (by omega)] at h0 ⊢; exact tokAt_pos h0
  at_ := fun k => by
    by_cases h : S.length ≤ k
    · rw [tkR_end h]; decide
    · rw [tkR_in (by omega)]; exact (tokAt_ok ha).2
  nf := fun k => by
    by_cases h : S.length ≤ k
    · rw [tkR_end h]; exact .none
    · rw [tkR_in (by omega)]; exact (tokAt_ok ha).1
  bd := fun k => by
    by_cases h : S.length ≤ k
    · rw [tkR_end h]; decide
    · rw [tkR_in (by omega)]; exact tokAt_bd
theorem tokN_tks (ha : 1 ≤ a.length ∧ a.length ≤ 60) : Tks (tkR a sets S) S.length (tokN a sets S) where
  ok := tkR_ok ha
  hd := fun n k h1 h2 => by
    by_cases h : S.length ≤ k
    · rw [tokN_end h, tkR_end h]; exact ⟨rfl, rfl⟩
    · obtain ⟨n, rfl⟩ : ∃ n', n = n' + 1 := ⟨n - 1, by omega⟩
      rw [tkR_in (by omega), tokN, if_pos (by omega)]
      split
      · next q => exact ⟨q.symm, rfl⟩
      · exact ⟨rfl, rfl⟩
  atm := fun n k h1 h2 h3 h4 => by
    by_cases h : S.length ≤ k
    · rw [tkR_end h] at h4; exact absurd rfl h4
    · obtain ⟨n, rfl⟩ : ∃ n', n = n' + 1 := ⟨n - 1, by omega⟩
      have hp := (tkR_ok (sets := sets) (S := S) ha).lt k h2 h3 h4
      rw [tkR_in (by omega)] at h3 h4 hp ⊢
      rw [tokN, if_pos (by omega), if_neg h3]
      exact ⟨rfl, n, by omega, rfl⟩
  en := fun n k => ⟨(tokN_good (sets := sets) (s := S) ha n k).1, (tokN_good (sets := sets) (s := S) ha n k).2.1⟩
def rTop (a : List Letter) (sets : List SetT) (S : List UInt8) : Rx × RS := rAltR (tkR a sets S) (S.length + 1) (rSeq (tkR a sets S) (S.length + 1) (rPost (tkR a sets S) (S.length + 1) S.length)) ⟨0, -1⟩
def rFin (S : List UInt8) (s : RS) : RS := if s.bad < 0 ∧ s.k < S.length then ⟨s.k, s.k⟩ else s
def rParseP (a : List Letter) (sets : List SetT) (S : List UInt8) : Rx × Int :=
  if validA a = false then (noneRx, 0) else if 1024 < S.length then (noneRx, 1024) else if 0 ≤ (rFin S (rTop a sets S).2).bad then (noneRx, (rFin S (rTop a sets S).2).bad) else (simR (rTop a sets S).1, -1)
theorem rParse_eq : rParseP a sets S = parseP a sets S := by
  unfold rParseP parseP
  split
  · rfl
  · next hv =>
    split
    · rfl
    · next hS =>
      have ha := validA_bd (a := a) (by revert hv; cases validA a <;> decide)
      have hT := tokN_tks (sets := sets) (S := S) ha
      have hc : Cr (tkR a sets S) S.length (tokN a sets S) ⟨0, -1⟩ ⟨toksP a sets S, -1⟩ := ⟨rfl, Nat.zero_le _, S.length, by show S.length ≤ 0 + S.length; omega, rfl⟩
      have hb := alt_both hT (seq_both (N := S.length + 1) hT (post_both (N := S.length + 1) hT (Nat.le_refl _) S.length (toksP a sets S).length) (rPost_ok hT.ok _) (pPost_ok _) (by omega)) (rSeq_ok (rPost_ok hT.ok _)) (pSeq_ok (pPost_ok _)) (Nat.le_refl _)
        ⟨0, -1⟩ ⟨toksP a sets S, -1⟩ hc (by show (-1 : Int) < 0; decide) (by show S.length ≤ 0 + S.length; omega) (Nat.le_refl _)
      have hb' : Both (tkR a sets S) S.length (tokN a sets S) Raw (rTop a sets S) (pAlt (pSeq (pPost (toksP a sets S).length)) ⟨toksP a sets S, -1⟩) := hb
      unfold pTop
      generalize rTop a sets S = r at *
      generalize pAlt (pSeq (pPost (toksP a sets S).length)) ⟨toksP a sets S, -1⟩ = p at *
      obtain ⟨h1, h2⟩ := hb'
      by_cases hbd : r.2.bad < 0
      · obtain ⟨h3, h4⟩ := h2 hbd
        have eh := h3.hd hT
        by_cases hk : r.2.k < S.length
        · have e1 : (rFin S r.2) = ⟨r.2.k, r.2.k⟩ := if_pos ⟨hbd, hk⟩
          have hne : p.2.hd ≠ 101 := by
            rw [eh]
            show (tkR a sets S r.2.k).1 ≠ 101
            rw [tkR_in hk]
            exact tokAt_ne
          have e2 : finP p.2 = p.2.fail := if_pos ⟨by omega, hne⟩
          have e3 : p.2.fail.bad = r.2.k := by unfold PS.fail; rw [if_pos (by omega)]; exact h3.pos hT
          have e4 : (0 : Int) ≤ (r.2.k : Int) := Int.natCast_nonneg _
          rw [e1, e2, e3]
          show (if (0 : Int) ≤ (r.2.k : Int) then (noneRx, (r.2.k : Int)) else _) = _
          rw [if_pos e4, if_pos e4]
        · have e1 : (rFin S r.2) = r.2 := if_neg fun q => hk q.2
          have e2 : finP p.2 = p.2 := if_neg fun q => q.2 (by
            rw [eh]; show (tkR a sets S r.2.k).1 = 101; rw [tkR_end (by omega)])
          rw [e1, e2, if_neg (by omega), if_neg (by omega)]
          unfold simR
          rw [if_pos h4.1, h4.2]
      · have e1 : (rFin S r.2) = r.2 := if_neg fun q => hbd q.1
        have e2 : finP p.2 = p.2 := if_neg fun q => hbd (by omega)
        rw [e1, e2, if_pos (by omega), if_pos (by omega), h1]
theorem text_pos (h : validA a = true) {i : Nat} (hi : i < a.length) : 0 < (a.getD i default).text.length ∧ (a.getD i default).text.length ≤ 4 := by
  have h1 := ((of_decide_eq_true (p := validP a) h).2 i hi).1.1
  unfold plainT at h1
  rw [Bool.and_eq_true, Bool.and_eq_true, decide_eq_true_eq, decide_eq_true_eq] at h1
  omega
def bstR (a : List Letter) (t : List UInt8) (i : Nat) : Int := if (bestN a t i).2 = 0 then -1 else ((bestN a t i).1 : Int)
theorem bstR_neg {i : Nat} (h : bstR a t i < 0) : (bestN a t i).2 = 0 := by
  unfold bstR at h
  split at h
  · next q => exact q
  · omega
variable {k : Nat} (hk : k < S.length) (hb : bstR a (S.drop k) a.length < 0)
include hk hb
theorem tk_mark (h : (((S.drop k).getD 0 default).toNat : Int) = 124 ∨ (((S.drop k).getD 0 default).toNat : Int) = 40 ∨ (((S.drop k).getD 0 default).toNat : Int) = 41 ∨ (((S.drop k).getD 0 default).toNat : Int) = 42 ∨ (((S.drop k).getD 0 default).toNat : Int) = 63) :
    tkR a sets S k = ((((S.drop k).getD 0 default).toNat : Int), noneRx, 1) := by
  have hn := bstR_neg hb
  rw [tkR_in hk, tokAt_mark (by omega) (by omega) (by omega) (by omega)]
  have e : ∀ n : Nat, n < 256 → (((S.drop k).getD 0 default).toNat : Int) = n → (S.drop k).getD 0 default = UInt8.ofNat n := fun n hn e => UInt8.toNat_inj.1 (by rw [UInt8.toNat_ofNat']; omega)
  rcases h with h | h | h | h | h
  · rw [e 124 (by decide) h]; decide
  · rw [e 40 (by decide) h]; decide
  · rw [e 41 (by decide) h]; decide
  · rw [e 42 (by decide) h]; decide
  · rw [e 63 (by decide) h]; decide
theorem tk_minus (h : (((S.drop k).getD 0 default).toNat : Int) = 45) : tkR a sets S k = (97, oneR [63], 1) := by
  have hn := bstR_neg hb
  rw [tkR_in hk, tokAt_minus (by omega) (by omega) h]
theorem tk_hash (h : (((S.drop k).getD 0 default).toNat : Int) = 35) : tkR a sets S k = (97, oneR [62], 1) := by
  have hn := bstR_neg hb
  rw [tkR_in hk, tokAt_hash (by omega) (by omega) (by omega) h]
theorem tk_dot (h : (((S.drop k).getD 0 default).toNat : Int) = 46) : tkR a sets S k = (97, oneR ((List.range a.length).map fun (k : Nat) => (k : Int)), 1) := by
  have hn := bstR_neg hb
  rw [tkR_in hk, tokAt_dot (by omega) h]
omit hk hb in
theorem ib_none {l : List UInt8} {c : UInt8} (h : ∀ j, j < l.length → l.getD j default ≠ c) : Lib.indexByte l c = -1 := by
  induction l with
  | nil => rfl
  | cons b l ih =>
    have h0 := h 0 (Nat.succ_pos _)
    have h1 := ih fun j hj => h (j + 1) (Nat.succ_lt_succ hj)
    have hb : (b == c) = false := beq_eq_false_iff_ne.2 h0
    unfold Lib.indexByte
    rw [if_neg (by rw [hb]; decide), if_pos (by rw [h1]; decide)]
omit hk hb in
theorem ib_hit {c : UInt8} : ∀ {l : List UInt8} {m : Nat}, m < l.length → (∀ j, j < m → l.getD j default ≠ c) → l.getD m default = c → Lib.indexByte l c = m
  | [], m, hm, _, _ => absurd hm (Nat.not_lt_zero _)
  | b :: l, 0, _, _, h => by
    have hb : (b == c) = true := beq_iff_eq.2 h
    unfold Lib.indexByte; exact if_pos hb
  | b :: l, m + 1, hm, h, h1 => by
    have h0 := h 0 (Nat.succ_pos _)
    have h2 := ib_hit (l := l) (m := m) (Nat.lt_of_succ_lt_succ hm) (fun j hj => h (j + 1) (Nat.succ_lt_succ hj)) h1
    have hb : (b == c) = false := beq_eq_false_iff_ne.2 h0
    unfold Lib.indexByte
    rw [if_neg (by rw [hb]; decide), if_neg (by rw [h2, beq_iff_eq]; omega), h2]; rfl
omit hk hb in
theorem b125 {c : UInt8} : (c.toNat : Int) = 125 ↔ c = 125 := ⟨fun h => UInt8.toNat_inj.1 (by rw [show (125 : UInt8).toNat = 125 from rfl]; omega), fun h => by rw [h]; rfl⟩
def noMk (c : Int) : Prop := c ≠ 124 ∧ c ≠ 40 ∧ c ≠ 41 ∧ c ≠ 42 ∧ c ≠ 63 ∧ c ≠ 45 ∧ c ≠ 35 ∧ c ≠ 46
theorem tk_rest (h : noMk (((S.drop k).getD 0 default).toNat : Int)) : tkR a sets S k = if (((S.drop k).getD 0 default).toNat : Int) ≠ 123 ∨ Lib.indexByte ((S.drop k).drop 1) 125 < 0 then (0, noneRx, 0) else if nameB (S.drop k) = [] then (97, noneRx, 2)
      else if 0 ≤ idxF (fun x : SetT => decide (x.name = nameB (S.drop k))) sets ∧ setOk (sets.getD (idxF (fun x : SetT => decide (x.name = nameB (S.drop k))) sets).toNat default).syms = true then
        (97, oneR (sets.getD (idxF (fun x : SetT => decide (x.name = nameB (S.drop k))) sets).toNat default).syms, (nameB (S.drop k)).length + 2) else (0, noneRx, 0) := by
  have hn := bstR_neg hb
  obtain ⟨h1, h2, h3, h4, h5, h6, h7, h8⟩ := h
  rw [tkR_in hk, tokAt_rest (by omega) (by omega) (by omega) (by omega)]
  intro q
  have q' : 0 ≤ Lib.indexByte [124, 40, 41, 42, 63] ((S.drop k).getD 0 default) := q
  have e : ∀ c : UInt8, 0 ≤ Lib.indexByte [124, 40, 41, 42, 63] c → c = 124 ∨ c = 40 ∨ c = 41 ∨ c = 42 ∨ c = 63 := fun c hc => by
    have h := Lib.contains_iff_indexByte [124, 40, 41, 42, 63] c
    rw [decide_eq_true hc] at h
    have h2 := List.contains_iff_mem.1 h
    simpa using h2
  rcases e _ q' with e | e | e | e | e <;> rw [e] at h1 h2 h3 h4 h5
  · exact h1 rfl
  · exact h2 rfl
  · exact h3 rfl
  · exact h4 rfl
  · exact h5 rfl
def NoBr (t : List UInt8) (e : Nat) : Prop := 1 ≤ e ∧ e ≤ t.length ∧ ∀ j, 1 ≤ j → j < e → t.getD j default ≠ 125
omit hk hb in
theorem NoBr.one {t : List UInt8} (h : 0 < t.length) : NoBr t 1 := ⟨Nat.le_refl _, h, fun j h1 h2 => by omega⟩
omit hk hb in
theorem NoBr.step {t : List UInt8} {e : Nat} (h : NoBr t e) (h1 : e < t.length) (h2 : ((t.getD e default).toNat : Int) ≠ 125) : NoBr t (e + 1) := ⟨by omega, h1, fun j h3 h4 => by
  by_cases q : j = e
  · rw [q]; exact fun e => h2 (b125.2 e)
  · exact h.2.2 j h3 (by omega)⟩
omit hk hb in
theorem NoBr.all {t : List UInt8} {e : Nat} (h : NoBr t e) (h1 : e = t.length) : Lib.indexByte (t.drop 1) 125 = -1 := ib_none fun j hj => by
  rw [List.length_drop] at hj
  rw [getD_dropk]; exact h.2.2 (1 + j) (by omega) (by omega)
omit hk hb in
theorem NoBr.at_ {t : List UInt8} {e : Nat} (h : NoBr t e) (h1 : e < t.length) (h2 : ((t.getD e default).toNat : Int) = 125) : Lib.indexByte (t.drop 1) 125 = ((e - 1 : Nat) : Int) ∧ nameB t = (t.drop 1).take (e - 1) := by
  have h3 := h.1
  have e1 : Lib.indexByte (t.drop 1) 125 = ((e - 1 : Nat) : Int) := ib_hit (by rw [List.length_drop]; omega) (fun j hj => by rw [getD_dropk]; exact h.2.2 (1 + j) (by omega) (by omega)) (by rw [getD_dropk, show 1 + (e - 1) = e by omega]; exact b125.1 h2)
  refine ⟨e1, ?_⟩
  unfold nameB cutB
  rw [e1, if_pos (Int.natCast_nonneg _)]; rfl
theorem tk_brace (h : noMk (((S.drop k).getD 0 default).toNat : Int)) {e : Nat} (hN : NoBr (S.drop k) e) (h0 : (((S.drop k).getD 0 default).toNat : Int) = 123) (h1 : e < (S.drop k).length) (h2 : (((S.drop k).getD e default).toNat : Int) = 125) (he : e = 1) : tkR a sets S k = (97, noneRx, 2) := by
  obtain ⟨g1, g2⟩ := hN.at_ h1 h2
  subst he
  rw [tk_rest hk hb h, if_neg (fun q => by omega), if_pos (by rw [g2]; rfl)]
end
end Go.Wb

namespace Go.Wb
set_option linter.unusedVariables false
set_option linter.unusedSimpArgs false
open Go.Am Go.Wc
def oneB (a : List Letter) (r : Rx) : Bool := decide (r.kind = 2) && (decide (r.syms.length = 1) && decide (r.syms.getD 0 default < a.length))
def lngB (a : List Letter) (n : Int) : Bool := (List.range a.length).any fun i => !decide ((i : Int) = n) && preB (a.getD i default).text (a.getD n.toNat default).text
theorem texts_apart {a : List Letter} (ha : validA a = true) {i j : Nat} (hi : i < a.length) (hj : j < a.length) (h : i ≠ j) : (a.getD i default).text ≠ (a.getD j default).text := by
  have h1 := (of_decide_eq_true (p := validP a) ha).2
  rcases Nat.lt_or_gt_of_ne h with q | q
  · exact (h1 j hj).2.2 i q
  · exact fun e => (h1 i hi).2.2 j q e.symm
def symsT (a : List Letter) (s : List Int) (i : Nat) : List UInt8 := joinB ((s.map (letterT a)).take i)
def pcT (a : List Letter) (r : Rx) (i : Nat) : List UInt8 :=
  if r.kind = 3 then pieceT a (prevB a r.kids i) (r.kids.getD i default) (textR a (r.kids.getD i default)) (((r.kids.getD i default).kids.map (textR a)).getD 0 default)
  else if r.kind = 5 then partT (r.kids.getD i default) true (textR a (r.kids.getD i default)) else textR a (r.kids.getD i default)
def accT (a : List Letter) (r : Rx) (i : Nat) : List UInt8 := if r.kind = 4 then joinB ((r.kids.map (textR a)).take i) else (List.range i).flatMap (pcT a r)
def sepT (a : List Letter) (r : Rx) (i : Nat) : List UInt8 := if r.kind = 4 ∧ 0 < i then accT a r i ++ [124] else accT a r i
def aptB (a : List Letter) (r : Rx) (i : Nat) : Bool := if r.kind = 3 ∧ 0 < i then longR a (prevB a r.kids i) else false
section
variable {a : List Letter} {r : Rx} {i : Nat}
end
end Go.Wb

namespace Go.Wb
set_option linter.unusedVariables false
open Go.Am Go.Wc
theorem seqN_one {x : Rx} (h : x.kind ≠ 1 ∧ x.kind ≠ 3) (h0 : x.kind = 0 → x = noneRx) : seqN [x] = x := by
  unfold seqN
  split
  · next q =>
    have q' : x.kind = 0 := by simpa using q
    exact (h0 q').symm
  · rw [seqL_self (l := [x]) fun y hy => by rw [List.mem_singleton.1 hy]; exact h]; rfl
theorem altN_set {s : List Int} (h : setOk s = true) : altN (s.map fun z => oneR [z]) = oneR s := by
  have e : altN (s.map fun z => oneR [z]) = altN [oneR s] := by
    have hL : ∀ {l : List Rx} {x : Rx}, (∀ y ∈ l, y.kind = 2) → (x ∈ altL l ↔ x ∈ l) := fun {l x} hl => by
      rw [altL_mem]
      constructor
      · rintro ⟨y, hy, hx⟩
        rw [altF_x (by rw [hl y hy]; decide)] at hx
        rw [List.mem_singleton.1 hx]; exact hy
      · intro hx
        exact ⟨x, hx, by rw [altF_x (by rw [hl x hx]; decide)]; exact List.mem_singleton.2 rfl⟩
    have h1 : ∀ y ∈ s.map (fun z => oneR [z]), y.kind = 2 := fun y hy => by
      obtain ⟨z, _, rfl⟩ := List.mem_map.1 hy; rfl
    have h2 : ∀ y ∈ [oneR s], y.kind = 2 := fun y hy => by rw [List.mem_singleton.1 hy]; rfl
    refine altN_ext (fun x => ?_) fun z => ?_
    · rw [altK_mem, altK_mem, hL h1, hL h2]
      constructor
      · rintro ⟨q1, _, q3⟩; exact absurd (h1 x q1) q3
      · rintro ⟨q1, _, q3⟩; exact absurd (h2 x q1) q3
    · rw [altS_mem, altS_mem]
      constructor
      · rintro ⟨x, q1, _, q3⟩
        obtain ⟨w, hw, rfl⟩ := List.mem_map.1 ((hL h1).1 q1)
        have hz : z = w := List.mem_singleton.1 q3
        exact ⟨oneR s, (hL h2).2 (List.mem_singleton.2 rfl), rfl, by rw [hz]; exact hw⟩
      · rintro ⟨x, q1, _, q3⟩
        rw [List.mem_singleton.1 ((hL h2).1 q1)] at q3
        exact ⟨oneR [z], (hL h1).2 (List.mem_map.2 ⟨z, q3, rfl⟩), rfl, List.mem_singleton.2 rfl⟩
  rw [e]; exact altN_one (one_nf h).1 ⟨by show (2 : Int) ≠ 0; decide, by show (2 : Int) ≠ 4; decide⟩
section
variable {a : List Letter} {sets : List SetT} {S : List UInt8} (hA : validA a = true)
include hA
theorem txt_free {i : Nat} (hi : i < a.length) : ∀ c ∈ (a.getD i default).text, resB c = false := by
  have h1 := ((of_decide_eq_true (p := validP a) hA).2 i hi).1.1
  unfold plainT at h1
  rw [Bool.and_eq_true, Bool.and_eq_true, List.all_eq_true] at h1
  exact fun c hc => by have := h1.1.1 c hc; rwa [Bool.not_eq_true'] at this
theorem no_letter {c : UInt8} {r : List UInt8} (hc : resB c = true) {i : Nat} (hi : i < a.length) : preB (c :: r) (a.getD i default).text = false := by
  cases hp : preB (c :: r) (a.getD i default).text with
  | false => rfl
  | true =>
    have h1 := (text_pos hA hi).1
    have h2 := txt_free hA hi
    unfold preB at hp
    rw [Bool.and_eq_true, decide_eq_true_eq, decide_eq_true_eq] at hp
    generalize (a.getD i default).text = T at *
    cases T with
    | nil => exact absurd h1 (by decide)
    | cons d T =>
      have h3 := hp.2
      simp only [List.length_cons, List.take_succ_cons, List.cons.injEq] at h3
      have := h2 d List.mem_cons_self
      rw [← h3.1, hc] at this; cases this
theorem best_none {c : UInt8} {r : List UInt8} (hc : resB c = true) : ∀ i, i ≤ a.length → bestN a (c :: r) i = (0, 0)
  | 0, _ => rfl
  | i + 1, hi => by
    rw [bestN_no fun q => by rw [no_letter hA hc (by omega)] at q; exact absurd q.2 (by decide)]
    exact best_none hc i (by omega)
theorem bst_none {c : UInt8} {r : List UInt8} (hc : resB c = true) : bstR a (c :: r) a.length < 0 := by
  unfold bstR; rw [best_none hA hc _ (Nat.le_refl _), if_pos rfl]; decide
theorem best_letter {n : Nat} {rest : List UInt8} (hn : n < a.length) (hB : ∀ i, i < a.length → preB ((a.getD n default).text ++ rest) (a.getD i default).text = true → (a.getD i default).text.length ≤ (a.getD n default).text.length) :
    ∀ i, i ≤ a.length → (bestN a ((a.getD n default).text ++ rest) i).2 ≤ (a.getD n default).text.length ∧ (n < i → bestN a ((a.getD n default).text ++ rest) i = (n, (a.getD n default).text.length))
  | 0, _ => ⟨Nat.zero_le _, fun h => absurd h (Nat.not_lt_zero _)⟩
  | i + 1, hi => by
    obtain ⟨h1, h2⟩ := best_letter hn hB i (by omega)
    have hself : preB ((a.getD n default).text ++ rest) (a.getD n default).text = true := by
      unfold preB
      rw [decide_eq_true (by rw [List.length_append]; omega), decide_eq_true (by rw [List.take_left])]; rfl
    by_cases hc : (bestN a ((a.getD n default).text ++ rest) i).2 < (a.getD i default).text.length ∧ preB ((a.getD n default).text ++ rest) (a.getD i default).text = true
    · rw [bestN_yes hc.1 hc.2]
      have h3 := hB i (by omega) hc.2
      refine ⟨h3, fun h => ?_⟩
      by_cases hin : n = i
      · rw [hin]
      · have h4 := h2 (by omega)
        rw [h4] at hc
        exact absurd hc.1 (by show ¬ (a.getD n default).text.length < _; omega)
    · rw [bestN_no hc]
      refine ⟨h1, fun h => ?_⟩
      by_cases hin : n = i
      · subst hin
        have h5 : (bestN a ((a.getD n default).text ++ rest) n).2 = (a.getD n default).text.length := by
          have : ¬ (bestN a ((a.getD n default).text ++ rest) n).2 < (a.getD n default).text.length := fun q => hc ⟨q, hself⟩
          omega
        -- an earlier letter with the same text
        exfalso
        have hp := (text_pos hA hn).1
        have key : ∀ j, j ≤ a.length → 0 < (bestN a ((a.getD n default).text ++ rest) j).2 → (bestN a ((a.getD n default).text ++ rest) j).1 < j ∧ preB ((a.getD n default).text ++ rest) (a.getD (bestN a ((a.getD n default).text ++ rest) j).1 default).text = true ∧ (a.getD (bestN a ((a.getD n default).text ++ rest) j).1 default).text.length = (bestN a ((a.getD n default).text ++ rest) j).2 := by
          intro j
          induction j with
          | zero => intro _ h0; exact absurd (show 0 < 0 from h0) (by decide)
          | succ j ih =>
            intro hj h0
            by_cases hq : (bestN a ((a.getD n default).text ++ rest) j).2 < (a.getD j default).text.length ∧ preB ((a.getD n default).text ++ rest) (a.getD j default).text = true
            · rw [bestN_yes hq.1 hq.2]; exact ⟨Nat.lt_succ_self _, hq.2, rfl⟩
            · rw [bestN_no hq] at h0 ⊢
              obtain ⟨g1, g2, g3⟩ := ih (by omega) h0
              exact ⟨by omega, g2, g3⟩
        obtain ⟨g1, g2, g3⟩ := key n (by omega) (by omega)
        refine texts_apart hA (i := (bestN a ((a.getD n default).text ++ rest) n).1) (j := n) (by omega) hn (by omega) ?_
        unfold preB at g2
        rw [Bool.and_eq_true, decide_eq_true_eq, decide_eq_true_eq] at g2
        have g4 := g2.2
        rw [g3, h5, List.take_left] at g4
        exact g4.symm
      · exact h2 (by omega)
end
def Res0 (rest : List UInt8) : Prop := rest = [] ∨ ∃ c r, rest = c :: r ∧ resB c = true
section
variable {a : List Letter} {sets : List SetT} {S : List UInt8} (hA : validA a = true)
include hA
theorem letter_bd {n : Nat} {rest : List UInt8} (hn : n < a.length) (h : longR a n = false ∨ Res0 rest) : ∀ i, i < a.length → preB ((a.getD n default).text ++ rest) (a.getD i default).text = true → (a.getD i default).text.length ≤ (a.getD n default).text.length := by
  intro i hi hp
  refine Nat.le_of_not_lt fun hlt => ?_
  unfold preB at hp
  rw [Bool.and_eq_true, decide_eq_true_eq, decide_eq_true_eq, List.length_append] at hp
  have hpre : preB (a.getD i default).text (a.getD n default).text = true := by
    unfold preB
    rw [decide_eq_true (by omega), Bool.true_and]
    refine decide_eq_true ?_
    rw [← hp.2, List.take_take, Nat.min_eq_left (by omega), List.take_left]
  rcases h with h | h
  · rw [long_is (Int.natCast_nonneg n), List.any_eq_false, Int.toNat_natCast] at h
    refine h (a.getD i default) (by rw [getD_el hi]; exact List.getElem_mem hi) ?_
    rw [hpre, decide_eq_true hlt]; rfl
  · rcases h with rfl | ⟨c, r, rfl, hc⟩
    · simp only [List.length_nil] at hp; omega
    · have h1 : (a.getD i default).text[(a.getD n default).text.length]? = some c := by
        rw [← hp.2, List.getElem?_take, if_pos hlt, List.getElem?_append_right (Nat.le_refl _), Nat.sub_self]; rfl
      have := txt_free hA hi c (List.mem_of_getElem? h1)
      rw [hc] at this; cases this
theorem tk_text {k n : Nat} {rest : List UInt8} (hn : n < a.length) (hS : S.drop k = (a.getD n default).text ++ rest) (h : longR a n = false ∨ Res0 rest) : tkR a sets S k = (97, oneR [(n : Int)], (a.getD n default).text.length) := by
  have hp := (text_pos hA hn).1
  have hk : k < S.length := by
    have := congrArg List.length hS
    rw [List.length_drop, List.length_append] at this; omega
  have hb := (best_letter (rest := rest) hA hn (letter_bd hA hn h) a.length (Nat.le_refl _)).2 hn
  rw [← hS] at hb
  rw [tkR_in hk, tokAt_best (by rw [hb]; exact hp), hb]
omit hA in
theorem drop_lt {k : Nat} {c : UInt8} {r : List UInt8} (hS : S.drop k = c :: r) : k < S.length := by
  have := congrArg List.length hS
  rw [List.length_drop, List.length_cons] at this; omega
omit hA in
theorem drop_one {k : Nat} {c : UInt8} {r : List UInt8} (hS : S.drop k = c :: r) : S.drop (k + 1) = r := by
  rw [← List.drop_drop, hS]; rfl
omit hA in
theorem drop_app {k : Nat} {t r : List UInt8} (hS : S.drop k = t ++ r) : S.drop (k + t.length) = r := by
  rw [← List.drop_drop, hS, List.drop_left]
omit hA in
theorem drop_len {k : Nat} {t r : List UInt8} (hS : S.drop k = t ++ r) (hk : k ≤ S.length) : k + t.length ≤ S.length := by
  have := congrArg List.length hS
  rw [List.length_drop, List.length_append] at this; omega
theorem tk_sign {k : Nat} {c : UInt8} {r : List UInt8} (hS : S.drop k = c :: r) (hc : c = 124 ∨ c = 40 ∨ c = 41 ∨ c = 42 ∨ c = 63) : tkR a sets S k = ((c.toNat : Int), noneRx, 1) := by
  have hr : resB c = true := by rcases hc with rfl | rfl | rfl | rfl | rfl <;> decide
  have h := tk_mark (a := a) (sets := sets) (drop_lt hS) (by rw [hS]; exact bst_none hA hr) (by
    rw [hS]
    show ((c.toNat : Int) = 124 ∨ (c.toNat : Int) = 40 ∨ (c.toNat : Int) = 41 ∨ (c.toNat : Int) = 42 ∨ (c.toNat : Int) = 63)
    rcases hc with rfl | rfl | rfl | rfl | rfl <;> decide)
  rw [hS] at h; exact h
theorem tk_plus {k : Nat} {r : List UInt8} (hS : S.drop k = 45 :: r) : tkR a sets S k = (97, oneR [63], 1) :=
  tk_minus (a := a) (drop_lt hS) (by rw [hS]; exact bst_none hA (by decide)) (by rw [hS]; rfl)
theorem tk_edge {k : Nat} {r : List UInt8} (hS : S.drop k = 35 :: r) : tkR a sets S k = (97, oneR [62], 1) :=
  tk_hash (a := a) (drop_lt hS) (by rw [hS]; exact bst_none hA (by decide)) (by rw [hS]; rfl)
theorem tk_any {k : Nat} {r : List UInt8} (hS : S.drop k = 46 :: r) : tkR a sets S k = (97, oneR ((List.range a.length).map fun (k : Nat) => (k : Int)), 1) :=
  tk_dot (a := a) (drop_lt hS) (by rw [hS]; exact bst_none hA (by decide)) (by rw [hS]; rfl)
theorem tk_null {k : Nat} {r : List UInt8} (hS : S.drop k = 123 :: 125 :: r) : tkR a sets S k = (97, noneRx, 2) := by
  refine tk_brace (a := a) (e := 1) (drop_lt hS) (by rw [hS]; exact bst_none hA (by decide)) ?_ ?_ (by rw [hS]; rfl) (by rw [hS]; simp) (by rw [hS]; rfl) rfl
  · rw [hS]; show noMk ((123 : UInt8).toNat : Int); unfold noMk; decide
  · exact NoBr.one (by rw [hS]; simp)
def FP (rest : List UInt8) : Prop := ∀ c r, rest = c :: r → c ≠ 42 ∧ c ≠ 63
omit hA in
theorem hd_mark {k : Nat} {m : Int} (hm : m = 42 ∨ m = 63 ∨ m = 124 ∨ m = 41) (h : (tkR a sets S k).1 = m) : ∃ c r, S.drop k = c :: r ∧ (c.toNat : Int) = m := by
  by_cases hk : S.length ≤ k
  · rw [tkR_end hk] at h
    have h' : (101 : Int) = m := h
    omega
  · rw [tkR_in (by omega)] at h
    have e0 : (97 : Int) ≠ m := by omega
    have e1 : (0 : Int) ≠ m := by omega
    have hc : (((S.drop k).getD 0 default).toNat : Int) = m := by
      unfold tokAt at h
      split at h
      · exact absurd h e0
      · split at h
        · exact absurd h e0
        · split at h
          · exact absurd h e0
          · split at h
            · exact absurd h e0
            · split at h
              · exact h
              · split at h
                · exact absurd h e1
                · split at h
                  · exact absurd h e0
                  · split at h
                    · exact absurd h e0
                    · exact absurd h e1
    cases hd : S.drop k with
    | nil =>
      have := congrArg List.length hd
      rw [List.length_drop, List.length_nil] at this; omega
    | cons c r =>
      rw [hd] at hc
      exact ⟨c, r, rfl, hc⟩
omit hA in
theorem fp_hd {k : Nat} {rest : List UInt8} (hS : S.drop k = rest) (h : FP rest) : (tkR a sets S k).1 ≠ 42 ∧ (tkR a sets S k).1 ≠ 63 := by
  refine ⟨fun e => ?_, fun e => ?_⟩
  · obtain ⟨c, r, h1, h2⟩ := hd_mark (.inl rfl) e
    rw [hS] at h1
    exact (h c r h1).1 (UInt8.toNat_inj.1 (by rw [show (42 : UInt8).toNat = 42 from rfl]; omega))
  · obtain ⟨c, r, h1, h2⟩ := hd_mark (.inr (.inl rfl)) e
    rw [hS] at h1
    exact (h c r h1).2 (UInt8.toNat_inj.1 (by rw [show (63 : UInt8).toNat = 63 from rfl]; omega))
def FA (rest : List UInt8) : Prop := rest = [] ∨ ∃ r, rest = 41 :: r
def FS (rest : List UInt8) : Prop := FA rest ∨ ∃ r, rest = 124 :: r
omit hA in
theorem FS.fp {rest : List UInt8} (h : FS rest) : FP rest := fun c r e => by
  rcases h with (h | ⟨q, h⟩) | ⟨q, h⟩
  · rw [h] at e; cases e
  · rw [h] at e; injection e with e1 _; subst e1; decide
  · rw [h] at e; injection e with e1 _; subst e1; decide
omit hA in
theorem FS.res {rest : List UInt8} (h : FS rest) : Res0 rest := by
  rcases h with (h | ⟨q, h⟩) | ⟨q, h⟩
  · exact .inl h
  · exact .inr ⟨_, _, h, by decide⟩
  · exact .inr ⟨_, _, h, by decide⟩
theorem FA.hd {k : Nat} {rest : List UInt8} (hS : S.drop k = rest) (h : FA rest) : (tkR a sets S k).1 = 101 ∨ (tkR a sets S k).1 = 41 := by
  rcases h with h | ⟨q, h⟩
  · refine .inl ?_
    rw [tkR_end]
    have := congrArg List.length hS
    rw [List.length_drop, h, List.length_nil] at this; omega
  · refine .inr ?_
    rw [tk_sign hA (hS.trans h) (by decide)]; rfl
theorem FS.hd {k : Nat} {rest : List UInt8} (hS : S.drop k = rest) (h : FS rest) : (tkR a sets S k).1 = 101 ∨ (tkR a sets S k).1 = 41 ∨ (tkR a sets S k).1 = 124 := by
  rcases h with h | ⟨q, h⟩
  · rcases FA.hd hA (sets := sets) hS h with e | e
    · exact .inl e
    · exact .inr (.inl e)
  · refine .inr (.inr ?_)
    rw [tk_sign hA (hS.trans h) (by decide)]; rfl
end
section
variable (a : List Letter) (sets : List SetT) (S : List UInt8)
def AtomRd (t : List UInt8) (x : Rx) (B : List UInt8 → Prop) : Prop := ∀ (k : Nat) (rest : List UInt8), S.drop k = t ++ rest → B rest → tkR a sets S k = (97, x, t.length)
def PostRd (t : List UInt8) (x : Rx) (B : List UInt8 → Prop) : Prop := ∀ (k n : Nat) (bad : Int) (rest : List UInt8), bad < 0 → S.drop k = t ++ rest → FP rest → B rest → S.length ≤ k + n → k ≤ S.length →
  0 < t.length ∧ ((tkR a sets S k).1 = 97 ∨ (tkR a sets S k).1 = 40) ∧ ∃ y, rPost (tkR a sets S) (S.length + 1) n ⟨k, bad⟩ = (y, ⟨k + t.length, bad⟩) ∧ Raw y x
def SeqRd (t : List UInt8) (x : Rx) : Prop := ∀ (k n : Nat) (bad : Int) (rest : List UInt8), bad < 0 → S.drop k = t ++ rest → FS rest → S.length ≤ k + n → k ≤ S.length →
  ∃ y, rSeq (tkR a sets S) (S.length + 1) (rPost (tkR a sets S) (S.length + 1) n) ⟨k, bad⟩ = (y, ⟨k + t.length, bad⟩) ∧ Raw y x
def AltRd (t : List UInt8) (x : Rx) : Prop := ∀ (k n : Nat) (bad : Int) (rest : List UInt8), bad < 0 → S.drop k = t ++ rest → FA rest → S.length ≤ k + n → k ≤ S.length →
  ∃ y, rAltR (tkR a sets S) (S.length + 1) (rSeq (tkR a sets S) (S.length + 1) (rPost (tkR a sets S) (S.length + 1) n)) ⟨k, bad⟩ = (y, ⟨k + t.length, bad⟩) ∧ Raw y x
end
section
variable {a : List Letter} {sets : List SetT} {S : List UInt8} (hA : validA a = true)
include hA
omit hA in
theorem star_none {k N : Nat} {bad : Int} {y : Rx} {rest : List UInt8} (hS : S.drop k = rest) (h : FP rest) : rStarLp (tkR a sets S) N ⟨k, bad⟩ y = (y, ⟨k, bad⟩) :=
  rStarLp_stop (fp_hd hS h).1 (fp_hd hS h).2
theorem star_one {k N : Nat} {bad : Int} {y : Rx} {rest : List UInt8} (hS : S.drop k = 42 :: rest) (h : FP rest) : rStarLp (tkR a sets S) (N + 1) ⟨k, bad⟩ y = (.mk 5 [] [y], ⟨k + 1, bad⟩) := by
  have ht := tk_sign (sets := sets) hA hS (by decide)
  have h1 : (⟨k, bad⟩ : RS).hd (tkR a sets S) = 42 := by show (tkR a sets S k).1 = 42; rw [ht]; rfl
  have h2 : (⟨k, bad⟩ : RS).adv (tkR a sets S) = ⟨k + 1, bad⟩ := by show (⟨k + (tkR a sets S k).2.2, bad⟩ : RS) = _; rw [ht]
  rw [rStarLp_star h1, h2]
  exact star_none (drop_one hS) h
omit hA in
theorem post_atom {t : List UInt8} {x : Rx} {B : List UInt8 → Prop} (hx : Nf x) (h0 : 0 < t.length) (h : AtomRd a sets S t x B) : PostRd a sets S t x B := fun k n bad rest hb hS hF hB hn hk => by
  have ht := h k rest hS hB
  have hl := drop_len hS hk
  refine ⟨h0, .inl (by rw [ht]), x, ?_, Raw.own hx⟩
  obtain ⟨n, rfl⟩ : ∃ n', n = n' + 1 := ⟨n - 1, by omega⟩
  have h1 : ¬ (⟨k, bad⟩ : RS).hd (tkR a sets S) = 40 := by show ¬ (tkR a sets S k).1 = 40; rw [ht]; show ¬ (97 : Int) = 40; decide
  have h2 : (⟨k, bad⟩ : RS).adv (tkR a sets S) = ⟨k + t.length, bad⟩ := by show (⟨k + (tkR a sets S k).2.2, bad⟩ : RS) = _; rw [ht]
  rw [rPost_x h1, h2]
  show rStarLp _ _ _ (tkR a sets S k).2.1 = _
  rw [ht]
  exact star_none (drop_app hS) hF
theorem post_star {t : List UInt8} {x : Rx} {B : List UInt8 → Prop} (hx : Nf x) (hs : starN x = .mk 5 [] [x]) (h0 : 0 < t.length) (hB : ∀ r, B (42 :: r)) (h : AtomRd a sets S t x B) : PostRd a sets S (t ++ [42]) (.mk 5 [] [x]) (fun _ => True) := fun k n bad rest hb hS hF _ hn hk => by
  have hS' : S.drop k = t ++ (42 :: rest) := by rw [hS, List.append_assoc]; rfl
  have ht := h k _ hS' (hB rest)
  have hl := drop_len hS' hk
  refine ⟨by rw [List.length_append]; omega, .inl (by rw [ht]), .mk 5 [] [x], ?_, by have := (Raw.own hx).star; rwa [hs] at this⟩
  obtain ⟨n, rfl⟩ : ∃ n', n = n' + 1 := ⟨n - 1, by omega⟩
  have h1 : ¬ (⟨k, bad⟩ : RS).hd (tkR a sets S) = 40 := by show ¬ (tkR a sets S k).1 = 40; rw [ht]; show ¬ (97 : Int) = 40; decide
  have h2 : (⟨k, bad⟩ : RS).adv (tkR a sets S) = ⟨k + t.length, bad⟩ := by show (⟨k + (tkR a sets S k).2.2, bad⟩ : RS) = _; rw [ht]
  rw [rPost_x h1, h2]
  show rStarLp _ _ _ (tkR a sets S k).2.1 = _
  rw [ht, star_one hA (drop_app hS') hF, List.length_append, List.length_singleton, Nat.add_assoc]
theorem par_open {t rest : List UInt8} {x : Rx} (h : AltRd a sets S t x) {k n : Nat} {bad : Int} (hb : bad < 0) (hS : S.drop k = 40 :: (t ++ (41 :: rest))) (hn : S.length ≤ k + (n + 1)) :
    ∃ y, Raw y x ∧ (tkR a sets S k).1 = 40 ∧ rPost (tkR a sets S) (S.length + 1) (n + 1) ⟨k, bad⟩ = rStarLp (tkR a sets S) (S.length + 1) ⟨k + 1 + t.length + 1, bad⟩ y ∧ S.drop (k + 1 + t.length + 1) = rest := by
  have ht := tk_sign (sets := sets) hA hS (by decide)
  have hk := drop_lt hS
  have h1 : (⟨k, bad⟩ : RS).hd (tkR a sets S) = 40 := by show (tkR a sets S k).1 = 40; rw [ht]; rfl
  have h2 : (⟨k, bad⟩ : RS).adv (tkR a sets S) = ⟨k + 1, bad⟩ := by show (⟨k + (tkR a sets S k).2.2, bad⟩ : RS) = _; rw [ht]
  have hS1 := drop_one hS
  obtain ⟨y, e1, e2⟩ := h (k + 1) n bad (41 :: rest) hb hS1 (.inr ⟨rest, rfl⟩) (by omega) (by omega)
  have hS2 := drop_app hS1
  have ht2 := tk_sign (sets := sets) hA hS2 (by decide)
  have hc : rClose (tkR a sets S) ⟨k + 1 + t.length, bad⟩ = ⟨k + 1 + t.length, bad⟩ := if_neg fun q => q.2 (by show (tkR a sets S (k + 1 + t.length)).1 = 41; rw [ht2]; rfl)
  have h3 : (⟨k + 1 + t.length, bad⟩ : RS).adv (tkR a sets S) = ⟨k + 1 + t.length + 1, bad⟩ := by show (⟨k + 1 + t.length + (tkR a sets S (k + 1 + t.length)).2.2, bad⟩ : RS) = _; rw [ht2]
  refine ⟨y, e2, by rw [ht]; rfl, ?_, drop_one hS2⟩
  rw [rPost_40 h1 (by rw [h2, e1]; show ¬ 0 ≤ (rClose (tkR a sets S) ⟨k + 1 + t.length, bad⟩).bad; rw [hc]; show ¬ 0 ≤ bad; omega), h2, e1]
  show rStarLp _ _ ((rClose (tkR a sets S) ⟨k + 1 + t.length, bad⟩).adv _) y = _
  rw [hc, h3]
theorem post_par {t : List UInt8} {x : Rx} {B : List UInt8 → Prop} (h : AltRd a sets S t x) : PostRd a sets S ([40] ++ t ++ [41]) x B := fun k n bad rest hb hS hF _ hn hk => by
  have hS' : S.drop k = 40 :: (t ++ (41 :: rest)) := by rw [hS]; simp
  have hl := drop_lt hS'
  obtain ⟨n, rfl⟩ : ∃ n', n = n' + 1 := ⟨n - 1, by omega⟩
  obtain ⟨y, g1, g2, g3, g4⟩ := par_open hA h hb hS' hn
  refine ⟨by simp, .inr g2, y, ?_, g1⟩
  rw [g3, star_none g4 hF]
  simp only [List.length_append, List.length_cons, List.length_nil]
  rw [show k + 1 + t.length + 1 = k + (0 + 1 + t.length + (0 + 1)) by omega]
theorem post_pars {t : List UInt8} {x : Rx} {B : List UInt8 → Prop} (hs : starN x = .mk 5 [] [x]) (h : AltRd a sets S t x) : PostRd a sets S ([40] ++ t ++ [41, 42]) (.mk 5 [] [x]) B := fun k n bad rest hb hS hF _ hn hk => by
  have hS' : S.drop k = 40 :: (t ++ (41 :: (42 :: rest))) := by rw [hS]; simp
  have hl := drop_lt hS'
  obtain ⟨n, rfl⟩ : ∃ n', n = n' + 1 := ⟨n - 1, by omega⟩
  obtain ⟨y, g1, g2, g3, g4⟩ := par_open hA h hb hS' hn
  refine ⟨by simp, .inr g2, .mk 5 [] [y], ?_, by have := g1.star; rwa [hs] at this⟩
  rw [g3, star_one hA g4 hF]
  simp only [List.length_append, List.length_cons, List.length_nil]
  rw [show k + 1 + t.length + 1 + 1 = k + (0 + 1 + t.length + (0 + 1 + 1)) by omega]
end
end Go.Wb

