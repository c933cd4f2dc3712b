/-
  Plain functions: the tokens of a pattern.
-/
import Derived.Test.YtgdehkimfmfofaaGreatJ18
import Derived.Lib.IndexAny
set_option linter.unusedVariables false
set_option linter.unusedSimpArgs false
namespace Go.Wb
set_option linter.unusedVariables false
open Go.Am
structure Tok where
  kind : Int
  atom : Rx
  pos : Int
instance : Inhabited Tok := ⟨⟨0, noneRx, 0⟩⟩
abbrev tok (t : Tok) : AV := .agg [.sc (.int .u8 t.kind), int t.atom.kind, ints t.atom.syms, .sl (Rx.avs t.atom.kids), int t.pos]
abbrev toks (l : List Tok) : AV := .sl (l.map tok)
structure PS where
  l : List Tok
  bad : Int
def PS.hd (s : PS) : Int := (s.l.getD 0 default).kind
def PS.adv (s : PS) : PS := ⟨s.l.drop 1, s.bad⟩
def PS.fail (s : PS) : PS := if s.bad < 0 then ⟨s.l, (s.l.getD 0 default).pos⟩ else s
def seqLp (post : PS → Rx × PS) : Nat → PS → List Rx × PS
  | 0, s => ([], s)
  | n + 1, s => if s.bad < 0 ∧ (s.hd = 97 ∨ s.hd = 40) then ((post s).1 :: (seqLp post n (post s).2).1, (seqLp post n (post s).2).2) else ([], s)
def pSeq (post : PS → Rx × PS) (s : PS) : Rx × PS := (seqN (seqLp post s.l.length s).1, (seqLp post s.l.length s).2)
theorem seqLp_stop {post : PS → Rx × PS} {k : Nat} {s : PS} (h : ¬ (s.bad < 0 ∧ (s.hd = 97 ∨ s.hd = 40))) : seqLp post k s = ([], s) := by
  cases k with
  | zero => rfl
  | succ k => rw [seqLp, if_neg h]
theorem seqLp_step {post : PS → Rx × PS} {k : Nat} {s : PS} (h : s.bad < 0 ∧ (s.hd = 97 ∨ s.hd = 40)) : seqLp post (k + 1) s = ((post s).1 :: (seqLp post k (post s).2).1, (seqLp post k (post s).2).2) := by rw [seqLp, if_pos h]
def altLp (seq : PS → Rx × PS) : Nat → PS → List Rx × PS
  | 0, s => ([], s)
  | n + 1, s => if s.bad < 0 ∧ s.hd = 124 then ((seq s.adv).1 :: (altLp seq n (seq s.adv).2).1, (altLp seq n (seq s.adv).2).2) else ([], s)
def pAlt (seq : PS → Rx × PS) (s : PS) : Rx × PS := (altN ((seq s).1 :: (altLp seq (seq s).2.l.length (seq s).2).1), (altLp seq (seq s).2.l.length (seq s).2).2)
theorem altLp_stop {seq : PS → Rx × PS} {k : Nat} {s : PS} (h : ¬ (s.bad < 0 ∧ s.hd = 124)) : altLp seq k s = ([], s) := by
  cases k with
  | zero => rfl
  | succ k => rw [altLp, if_neg h]
theorem altLp_step {seq : PS → Rx × PS} {k : Nat} {s : PS} (h : s.bad < 0 ∧ s.hd = 124) : altLp seq (k + 1) s = ((seq s.adv).1 :: (altLp seq k (seq s.adv).2).1, (altLp seq k (seq s.adv).2).2) := by rw [altLp, if_pos h]
def starLp : Nat → PS → Rx → Rx × PS
  | 0, s, x => (x, s)
  | n + 1, s, x => if s.hd = 42 then starLp n s.adv (starN x) else if s.hd = 63 then starLp n s.adv (altN [emptyRx, x]) else (x, s)
theorem starLp_stop {k : Nat} {s : PS} {x : Rx} (h : s.hd ≠ 42) (h2 : s.hd ≠ 63) : starLp k s x = (x, s) := by
  cases k with
  | zero => rfl
  | succ k => rw [starLp, if_neg h, if_neg h2]
theorem starLp_star {k : Nat} {s : PS} {x : Rx} (h : s.hd = 42) : starLp (k + 1) s x = starLp k s.adv (starN x) := by rw [starLp, if_pos h]
theorem starLp_opt {k : Nat} {s : PS} {x : Rx} (h : s.hd = 63) : starLp (k + 1) s x = starLp k s.adv (altN [emptyRx, x]) := by rw [starLp, if_neg (by omega), if_pos h]
theorem pSeq_is {post : PS → Rx × PS} {s z : PS} {acc : List Rx} (h : (acc, z) = seqLp post s.l.length s) : pSeq post s = (seqN acc, z) := by unfold pSeq; rw [← h]
theorem pAlt_is {seq : PS → Rx × PS} {s z : PS} {acc : List Rx} (h : (acc, z) = ((seq s).1 :: (altLp seq (seq s).2.l.length (seq s).2).1, (altLp seq (seq s).2.l.length (seq s).2).2)) : pAlt seq s = (altN acc, z) := by
  rw [Prod.mk.injEq] at h
  unfold pAlt; rw [← h.1, ← h.2]
def closeP (s : PS) : PS := if s.bad < 0 ∧ s.hd ≠ 41 then s.fail else s
def pPost : Nat → PS → Rx × PS
  | 0, s => (noneRx, s)
  | n + 1, s =>
    if s.hd = 40 then
      (if 0 ≤ (closeP (pAlt (pSeq (pPost n)) s.adv).2).bad then ((pAlt (pSeq (pPost n)) s.adv).1, closeP (pAlt (pSeq (pPost n)) s.adv).2)
       else starLp (closeP (pAlt (pSeq (pPost n)) s.adv).2).adv.l.length (closeP (pAlt (pSeq (pPost n)) s.adv).2).adv (pAlt (pSeq (pPost n)) s.adv).1)
    else starLp s.adv.l.length s.adv (s.l.getD 0 default).atom
theorem pPost_40e {n : Nat} {s : PS} (h : s.hd = 40) (hb : 0 ≤ (closeP (pAlt (pSeq (pPost n)) s.adv).2).bad) : pPost (n + 1) s = ((pAlt (pSeq (pPost n)) s.adv).1, closeP (pAlt (pSeq (pPost n)) s.adv).2) := by
  rw [pPost, if_pos h, if_pos hb]
theorem pPost_40 {n : Nat} {s : PS} (h : s.hd = 40) (hb : ¬ 0 ≤ (closeP (pAlt (pSeq (pPost n)) s.adv).2).bad) :
    pPost (n + 1) s = starLp (closeP (pAlt (pSeq (pPost n)) s.adv).2).adv.l.length (closeP (pAlt (pSeq (pPost n)) s.adv).2).adv (pAlt (pSeq (pPost n)) s.adv).1 := by
  rw [pPost, if_pos h, if_neg hb]
theorem pPost_x {n : Nat} {s : PS} (h : ¬ s.hd = 40) : pPost (n + 1) s = starLp s.adv.l.length s.adv (s.l.getD 0 default).atom := by rw [pPost, if_neg h]
def finP (s : PS) : PS := if s.bad < 0 ∧ s.hd ≠ 101 then s.fail else s
def pTop (l : List Tok) : Rx × Int :=
  if 0 ≤ (finP (pAlt (pSeq (pPost l.length)) ⟨l, -1⟩).2).bad then (noneRx, (finP (pAlt (pSeq (pPost l.length)) ⟨l, -1⟩).2).bad) else ((pAlt (pSeq (pPost l.length)) ⟨l, -1⟩).1, -1)
def endT (l : List Tok) : Prop := 0 < l.length ∧ ((l.getD (l.length - 1) default).kind = 0 ∨ (l.getD (l.length - 1) default).kind = 101)
def wtT : List Tok → Nat
  | [] => 0
  | t :: l => t.atom.size + 4 + wtT l
theorem getD_dropk {α : Type} [Inhabited α] {l : List α} {i k : Nat} : (l.drop k).getD i default = l.getD (k + i) default := by
  rw [List.getD_eq_getElem?_getD, List.getElem?_drop, List.getD_eq_getElem?_getD]
theorem endT_adv {s : PS} (h : endT s.l) (hk : s.hd ≠ 0 ∧ s.hd ≠ 101) : endT s.adv.l ∧ s.adv.l.length + 1 = s.l.length := by
  obtain ⟨h0, h1⟩ := h
  have h2 : s.l.length ≠ 1 := fun e => by
    rw [e] at h1
    exact h1.elim hk.1 hk.2
  have h3 : (s.l.drop 1).length = s.l.length - 1 := List.length_drop
  refine ⟨⟨by show 0 < (s.l.drop 1).length; omega, ?_⟩, by show (s.l.drop 1).length + 1 = _; omega⟩
  show ((s.l.drop 1).getD ((s.l.drop 1).length - 1) default).kind = 0 ∨ ((s.l.drop 1).getD ((s.l.drop 1).length - 1) default).kind = 101
  rw [getD_dropk, h3, show 1 + (s.l.length - 1 - 1) = s.l.length - 1 by omega]; exact h1
theorem wt_adv {s : PS} (h : 0 < s.l.length) : wtT s.l = (s.l.getD 0 default).atom.size + 4 + wtT s.adv.l := by
  unfold PS.adv
  match hl : s.l, h with
  | t :: l, _ => rfl
theorem fail_l (s : PS) : s.fail.l = s.l := by unfold PS.fail; split <;> rfl
theorem closeP_l (s : PS) : (closeP s).l = s.l := by unfold closeP; split; exact fail_l s; rfl
structure TokOk (l : List Tok) : Prop where
  nf : ∀ t ∈ l, Nf t.atom
  pos : ∀ t ∈ l, 0 ≤ t.pos
theorem TokOk.sub {l m : List Tok} (h : TokOk l) (hs : ∀ t ∈ m, t ∈ l) : TokOk m := ⟨fun t ht => h.nf t (hs t ht), fun t ht => h.pos t (hs t ht)⟩
def PostOk (post : PS → Rx × PS) (n : Nat) : Prop := ∀ s : PS, s.l.length ≤ n → endT s.l → (s.hd = 97 ∨ s.hd = 40) → TokOk s.l →
  endT (post s).2.l ∧ (post s).2.l.length < s.l.length ∧ (post s).1.size + wtT (post s).2.l ≤ wtT s.l ∧ Nf (post s).1 ∧ ∀ t ∈ (post s).2.l, t ∈ s.l
def SeqOk (c : Nat) (seq : PS → Rx × PS) (n : Nat) : Prop := ∀ s : PS, s.l.length ≤ n → endT s.l → TokOk s.l →
  endT (seq s).2.l ∧ (seq s).2.l.length ≤ s.l.length ∧ (seq s).1.size + wtT (seq s).2.l ≤ wtT s.l + c ∧ Nf (seq s).1 ∧ ∀ t ∈ (seq s).2.l, t ∈ s.l
theorem seqLp_ok {post : PS → Rx × PS} {n : Nat} (h : PostOk post n) : ∀ (k : Nat) (s : PS), s.l.length ≤ n → endT s.l → TokOk s.l →
    endT (seqLp post k s).2.l ∧ (seqLp post k s).2.l.length ≤ s.l.length ∧ Rx.sizes (seqLp post k s).1 + wtT (seqLp post k s).2.l ≤ wtT s.l ∧ (∀ x ∈ (seqLp post k s).1, Nf x) ∧ ∀ t ∈ (seqLp post k s).2.l, t ∈ s.l
  | 0, s, hn, he, ha => ⟨he, Nat.le_refl _, by show 0 + wtT s.l ≤ wtT s.l; omega, (fun x hx => by cases hx), fun t ht => ht⟩
  | k + 1, s, hn, he, ha => by
    rw [seqLp]
    split
    · next hc =>
      obtain ⟨g1, g2, g3, g4, g5⟩ := h s hn he hc.2 ha
      obtain ⟨i1, i2, i3, i4, i5⟩ := seqLp_ok h k (post s).2 (by omega) g1 (ha.sub g5)
      refine ⟨i1, by show (seqLp post k (post s).2).2.l.length ≤ _; omega, ?_, fun x hx => ?_, fun t ht => g5 t (i5 t ht)⟩
      · show Rx.sizes (_ :: _) + wtT (seqLp post k (post s).2).2.l ≤ _
        rw [Rx.sizes]; omega
      · rcases List.mem_cons.1 hx with rfl | hx
        · exact g4
        · exact i4 x hx
    · exact ⟨he, Nat.le_refl _, by show 0 + wtT s.l ≤ wtT s.l; omega, (fun x hx => by cases hx), fun t ht => ht⟩
theorem pSeq_ok {post : PS → Rx × PS} {n : Nat} (h : PostOk post n) : SeqOk 1 (pSeq post) n := fun s hn he ha => by
  obtain ⟨i1, i2, i3, i4, i5⟩ := seqLp_ok h s.l.length s hn he ha
  have := size_seqN (seqLp post s.l.length s).1
  exact ⟨i1, i2, by show (seqN _).size + wtT (seqLp post s.l.length s).2.l ≤ _; omega, seqN_nf i4, i5⟩
theorem altLp_ok {seq : PS → Rx × PS} {n : Nat} (h : SeqOk 1 seq n) : ∀ (k : Nat) (s : PS), s.l.length ≤ n → endT s.l → TokOk s.l →
    endT (altLp seq k s).2.l ∧ (altLp seq k s).2.l.length ≤ s.l.length ∧ Rx.sizes (altLp seq k s).1 + wtT (altLp seq k s).2.l ≤ wtT s.l ∧ (∀ x ∈ (altLp seq k s).1, Nf x) ∧ ∀ t ∈ (altLp seq k s).2.l, t ∈ s.l
  | 0, s, hn, he, ha => ⟨he, Nat.le_refl _, by show 0 + wtT s.l ≤ wtT s.l; omega, (fun x hx => by cases hx), fun t ht => ht⟩
  | k + 1, s, hn, he, ha => by
    rw [altLp]
    split
    · next hc =>
      have hw := wt_adv he.1
      obtain ⟨f1, f2⟩ := endT_adv he (by omega)
      have f3 : ∀ t ∈ s.adv.l, t ∈ s.l := fun t ht => List.mem_of_mem_drop ht
      obtain ⟨g1, g2, g3, g4, g5⟩ := h s.adv (by omega) f1 (ha.sub f3)
      obtain ⟨i1, i2, i3, i4, i5⟩ := altLp_ok h k (seq s.adv).2 (by omega) g1 (ha.sub fun t ht => f3 t (g5 t ht))
      refine ⟨i1, by show (altLp seq k (seq s.adv).2).2.l.length ≤ _; omega, ?_, fun x hx => ?_, fun t ht => f3 t (g5 t (i5 t ht))⟩
      · show Rx.sizes (_ :: _) + wtT (altLp seq k (seq s.adv).2).2.l ≤ _
        rw [Rx.sizes]; omega
      · rcases List.mem_cons.1 hx with rfl | hx
        · exact g4
        · exact i4 x hx
    · exact ⟨he, Nat.le_refl _, by show 0 + wtT s.l ≤ wtT s.l; omega, (fun x hx => by cases hx), fun t ht => ht⟩
theorem pAlt_ok {seq : PS → Rx × PS} {n : Nat} (h : SeqOk 1 seq n) : SeqOk 3 (pAlt seq) n := fun s hn he ha => by
  obtain ⟨g1, g2, g3, g4, g5⟩ := h s hn he ha
  obtain ⟨i1, i2, i3, i4, i5⟩ := altLp_ok h (seq s).2.l.length (seq s).2 (by omega) g1 (ha.sub g5)
  have hz := size_altN ((seq s).1 :: (altLp seq (seq s).2.l.length (seq s).2).1)
  rw [Rx.sizes] at hz
  have hnf : Nf (altN ((seq s).1 :: (altLp seq (seq s).2.l.length (seq s).2).1)) := altN_nf fun x hx => by
    rcases List.mem_cons.1 hx with rfl | hx
    · exact g4
    · exact i4 x hx
  have e1 : (pAlt seq s).2 = (altLp seq (seq s).2.l.length (seq s).2).2 := by unfold pAlt; rfl
  have e2 : (pAlt seq s).1 = altN ((seq s).1 :: (altLp seq (seq s).2.l.length (seq s).2).1) := by unfold pAlt; rfl
  rw [e1, e2]
  exact ⟨i1, by omega, by omega, hnf, fun t ht => g5 t (i5 t ht)⟩
theorem size_opt (x : Rx) : (altN [emptyRx, x]).size ≤ 3 + x.size := by
  have := size_altN [emptyRx, x]
  rw [Rx.sizes, Rx.sizes, Rx.sizes, size_mk] at this
  simp only [List.length_nil, Rx.sizes] at this; omega
theorem starLp_ok : ∀ (k : Nat) (s : PS) (x : Rx), endT s.l → Nf x →
    endT (starLp k s x).2.l ∧ (starLp k s x).2.l.length ≤ s.l.length ∧ (starLp k s x).1.size + wtT (starLp k s x).2.l ≤ x.size + wtT s.l ∧ Nf (starLp k s x).1 ∧ ∀ t ∈ (starLp k s x).2.l, t ∈ s.l
  | 0, s, x, he, hx => ⟨he, Nat.le_refl _, Nat.le_refl _, hx, fun t ht => ht⟩
  | k + 1, s, x, he, hx => by
    have hw := wt_adv he.1
    rw [starLp]
    split
    · next hc =>
      obtain ⟨f1, f2⟩ := endT_adv he (by omega)
      obtain ⟨i1, i2, i3, i4, i5⟩ := starLp_ok k s.adv (starN x) f1 (starN_nf hx)
      have := size_starN x
      exact ⟨i1, by omega, by omega, i4, fun t ht => List.mem_of_mem_drop (i5 t ht)⟩
    · split
      · next hc =>
        obtain ⟨f1, f2⟩ := endT_adv he (by omega)
        obtain ⟨i1, i2, i3, i4, i5⟩ := starLp_ok k s.adv (altN [emptyRx, x]) f1 (altN_nf fun y hy => by
          rcases List.mem_cons.1 hy with rfl | hy
          · exact .empty
          · rw [List.mem_singleton.1 hy]; exact hx)
        have := size_opt x
        exact ⟨i1, by omega, by omega, i4, fun t ht => List.mem_of_mem_drop (i5 t ht)⟩
      · exact ⟨he, Nat.le_refl _, Nat.le_refl _, hx, fun t ht => ht⟩
theorem closeP_bad {s : PS} (h : ¬ 0 ≤ (closeP s).bad) (hp : ∀ t ∈ s.l, 0 ≤ t.pos) (he : endT s.l) : closeP s = s ∧ s.hd = 41 := by
  unfold closeP at *
  split at h
  · next hc =>
    unfold PS.fail at h
    rw [if_pos hc.1] at h
    exact absurd (hp _ (by rw [getD_el he.1]; exact List.getElem_mem he.1)) h
  · next hc =>
    rw [if_neg hc]
    refine ⟨rfl, ?_⟩
    by_cases q : s.hd = 41
    · exact q
    · exact absurd ⟨by omega, q⟩ hc
theorem pPost_ok : ∀ n : Nat, PostOk (pPost n) n
  | 0 => fun s hn he _ _ => by have := he.1; omega
  | n + 1 => fun s hn he hk ha => by
    obtain ⟨f1, f2⟩ := endT_adv he (by omega)
    have hw := wt_adv he.1
    have f3 : ∀ t ∈ s.adv.l, t ∈ s.l := fun t ht => List.mem_of_mem_drop ht
    rw [pPost]
    split
    · next h40 =>
      obtain ⟨g1, g2, g3, g4, g5⟩ := pAlt_ok (pSeq_ok (pPost_ok n)) s.adv (by omega) f1 (ha.sub f3)
      generalize hr : pAlt (pSeq (pPost n)) s.adv = r at *
      have e1 := closeP_l r.2
      have h1 := size_pos (s.l.getD 0 default).atom
      split
      · exact ⟨by rw [e1]; exact g1, by show (closeP r.2).l.length < _; rw [e1]; omega, by show r.1.size + wtT (closeP r.2).l ≤ _; rw [e1]; omega, g4, fun t ht => f3 t (g5 t (by rw [e1] at ht; exact ht))⟩
      · next hb =>
        obtain ⟨e2, h41⟩ := closeP_bad hb (fun t ht => ha.pos t (f3 t (g5 t ht))) g1
        rw [e2]
        have hw2 := wt_adv g1.1
        obtain ⟨k1, k2⟩ := endT_adv g1 (by omega)
        obtain ⟨i1, i2, i3, i4, i5⟩ := starLp_ok r.2.adv.l.length r.2.adv r.1 k1 g4
        exact ⟨i1, by omega, by omega, i4, fun t ht => f3 t (g5 t (List.mem_of_mem_drop (i5 t ht)))⟩
    · obtain ⟨i1, i2, i3, i4, i5⟩ := starLp_ok s.adv.l.length s.adv (s.l.getD 0 default).atom f1 (ha.nf _ (by rw [getD_el he.1]; exact List.getElem_mem he.1))
      exact ⟨i1, by omega, by omega, i4, fun t ht => f3 t (i5 t ht)⟩
end Go.Wb

namespace Go.Wc
open Go.Am
abbrev byte (c : UInt8) : AV := .sc (.int .u8 c.toNat)
abbrev resL : List UInt8 := [48, 49, 50, 51, 52, 53, 54, 55, 56, 57, 45, 35, 46, 124, 40, 41, 42, 63, 123, 125, 62, 47, 95, 126, 59, 58, 44, 61, 34, 64]
def resB (c : UInt8) : Bool := resL.contains c || decide (c.toNat < 33)
def plainT (s : List UInt8) : Bool := s.all (fun c => !resB c) && decide (1 ≤ s.length) && decide (s.length ≤ 4)
theorem plainT_hit {s : List UInt8} {k : Nat} (hk : k < s.length) (h : resB (s.getD k 0) = true) : plainT s = false := by
  unfold plainT
  have : s.all (fun c => !resB c) = false := by
    rw [List.all_eq_false]
    refine ⟨s[k], List.getElem_mem hk, ?_⟩
    rw [List.getD_eq_getElem?_getD, List.getElem?_eq_getElem hk] at h
    simp only [Option.getD_some] at h
    simp [h]
  rw [this]; rfl
theorem plainT_step {s : List UInt8} {k : Nat} (hk : k < s.length) (h0 : (s.take k).all (fun c => !resB c) = true) (h : resB (s.getD k 0) = false) : (s.take (k + 1)).all (fun c => !resB c) = true := by
  rw [take_succ hk, List.all_append, h0]
  have h2 : s.getD k default = s.getD k 0 := rfl
  rw [h2, List.all_cons, h]; rfl
theorem plainT_end {s : List UInt8} {k : Nat} (hk : s.length ≤ k) (h0 : (s.take k).all (fun c => !resB c) = true) : plainT s = (decide (1 ≤ s.length) && decide (s.length ≤ 4)) := by
  rw [List.take_of_length_le hk] at h0
  unfold plainT
  rw [h0, Bool.true_and]

def ok1P (a : List Letter) (x : Letter) : Prop :=
  plainT x.text = true ∧ 0 ≤ x.base ∧ x.base < a.length ∧ (a.getD x.base.toNat default).base = x.base ∧ 0 ≤ x.mark ∧ x.mark ≤ 15 ∧ 0 ≤ x.cap ∧ x.cap ≤ 1 ∧ 1 ≤ x.width ∧ x.width ≤ 1000
def ok2P (x : Letter) (i : Nat) : Prop := x.base = i → x.mark = 0 ∧ x.cap = 0
def ok3P (a : List Letter) (i : Nat) : Prop := ∀ k, k < i → (a.getD k default).text ≠ (a.getD i default).text
def okP (a : List Letter) (i : Nat) : Prop := ok1P a (a.getD i default) ∧ ok2P (a.getD i default) i ∧ ok3P a i
instance (a : List Letter) (x : Letter) : Decidable (ok1P a x) := by unfold ok1P; infer_instance
instance (x : Letter) (i : Nat) : Decidable (ok2P x i) := by unfold ok2P; infer_instance
instance (a : List Letter) (i : Nat) : Decidable (ok3P a i) := by unfold ok3P; infer_instance
instance (a : List Letter) (i : Nat) : Decidable (okP a i) := by unfold okP; infer_instance
def validP (a : List Letter) : Prop := (1 ≤ a.length ∧ a.length ≤ 60) ∧ ∀ i, i < a.length → okP a i
instance (a : List Letter) : Decidable (validP a) := by unfold validP; infer_instance
def validA (a : List Letter) : Bool := decide (validP a)
theorem validA_size {a : List Letter} (h : a.length < 1 ∨ 60 < a.length) : validA a = false := by
  unfold validA; rw [decide_eq_false]; rintro ⟨h1, _⟩; omega
theorem validA_bad1 {a : List Letter} {i : Nat} (hi : i < a.length) (h : ¬ ok1P a (a.getD i default)) : validA a = false := by
  unfold validA; rw [decide_eq_false]; rintro ⟨_, h2⟩; exact h (h2 i hi).1
theorem validA_bad2 {a : List Letter} {i : Nat} (hi : i < a.length) (h : ¬ ok2P (a.getD i default) i) : validA a = false := by
  unfold validA; rw [decide_eq_false]; rintro ⟨_, h2⟩; exact h (h2 i hi).2.1
theorem validA_good {a : List Letter} {n : Nat} (h1 : 1 ≤ a.length ∧ a.length ≤ 60) (hn : a.length ≤ n) (h : ∀ i, i < n → okP a i) : validA a = true := by
  unfold validA; rw [decide_eq_true]; exact ⟨h1, fun i hi => h i (by omega)⟩
theorem lt_step {p : Nat → Prop} {k : Nat} (h : ∀ j, j < k → p j) (hk : p k) : ∀ j, j < k + 1 → p j := by
  intro j hj
  by_cases he : j = k
  · subst he; exact hk
  · exact h j (by omega)
abbrev lcells (c : Cls) (x : Letter) : List SV := [.v c (sbytes x.text), .v c (int x.base), .v c (int x.mark), .v c (int x.cap), .v c (int x.width)]
end Go.Wc

namespace Go.Wb
set_option linter.unusedVariables false
open Go.Am Go.Wc
structure SetT where
  name : List UInt8
  syms : List Int
instance : Inhabited SetT := ⟨⟨[], []⟩⟩
abbrev setA (x : SetT) : AV := .agg [sbytes x.name, ints x.syms]
abbrev setsA (l : List SetT) : AV := .sl (l.map setA)
def preB (s t : List UInt8) : Bool := decide (t.length ≤ s.length) && decide (s.take t.length = t)
theorem indexByte_lt : ∀ {l : List UInt8} {c : UInt8}, Lib.indexByte l c < l.length ∧ -1 ≤ Lib.indexByte l c
  | [], c => by unfold Lib.indexByte; exact ⟨by decide, by decide⟩
  | b :: l, c => by
    have h := indexByte_lt (l := l) (c := c)
    unfold Lib.indexByte
    rw [List.length_cons]
    split
    · omega
    · split <;> omega
def cutB (s : List UInt8) (c : UInt8) : List UInt8 := if 0 ≤ Lib.indexByte s c then s.take (Lib.indexByte s c).toNat else s
def cutA (s : List UInt8) (c : UInt8) : List UInt8 := if 0 ≤ Lib.indexByte s c then s.drop (Lib.indexByte s c + 1).toNat else []
def bestN (a : List Letter) (t : List UInt8) : Nat → Nat × Nat
  | 0 => (0, 0)
  | i + 1 => if (bestN a t i).2 < (a.getD i default).text.length ∧ preB t (a.getD i default).text = true then (i, (a.getD i default).text.length) else bestN a t i
def oneR (l : List Int) : Rx := .mk 2 l []
def nameB (t : List UInt8) : List UInt8 := cutB (t.drop 1) 125
def tokAt (a : List Letter) (sets : List SetT) (t : List UInt8) : Int × Rx × Nat :=
  if 0 < (bestN a t a.length).2 then (97, oneR [((bestN a t a.length).1 : Int)], (bestN a t a.length).2)
  else if ((t.getD 0 default).toNat : Int) = 46 then (97, oneR ((List.range a.length).map fun (k : Nat) => (k : Int)), 1)
  else if ((t.getD 0 default).toNat : Int) = 45 then (97, oneR [63], 1)
  else if ((t.getD 0 default).toNat : Int) = 35 then (97, oneR [62], 1)
  else if 0 ≤ Lib.indexByte [124, 40, 41, 42, 63] (t.getD 0 default) then (((t.getD 0 default).toNat : Int), noneRx, 1)
  else if ((t.getD 0 default).toNat : Int) ≠ 123 ∨ Lib.indexByte (t.drop 1) 125 < 0 then (0, noneRx, 0)
  else if nameB t = [] then (97, noneRx, 2)
  else if 0 ≤ idxF (fun x : SetT => decide (x.name = nameB t)) sets ∧ setOk (sets.getD (idxF (fun x : SetT => decide (x.name = nameB t)) sets).toNat default).syms = true then
    (97, oneR (sets.getD (idxF (fun x : SetT => decide (x.name = nameB t)) sets).toNat default).syms, (nameB t).length + 2)
  else (0, noneRx, 0)
def tokN (a : List Letter) (sets : List SetT) (s : List UInt8) : Nat → Nat → List Tok
  | 0, at_ => [⟨101, noneRx, at_⟩]
  | n + 1, at_ => if at_ < s.length then (if (tokAt a sets (s.drop at_)).1 = 0 then [⟨0, noneRx, at_⟩] else ⟨(tokAt a sets (s.drop at_)).1, (tokAt a sets (s.drop at_)).2.1, at_⟩ :: tokN a sets s n (at_ + (tokAt a sets (s.drop at_)).2.2)) else [⟨101, noneRx, at_⟩]
def toksP (a : List Letter) (sets : List SetT) (s : List UInt8) : List Tok := tokN a sets s s.length 0
section
variable {a : List Letter} {sets : List SetT} {s t : List UInt8}
theorem tokN_end {n k : Nat} (h : s.length ≤ k) : tokN a sets s n k = [⟨101, noneRx, k⟩] := by
  cases n with
  | zero => rfl
  | succ n => rw [tokN, if_neg (by omega)]
theorem tokN_bad {n k : Nat} (h : k < s.length) (h0 : (tokAt a sets (s.drop k)).1 = 0) : tokN a sets s (n + 1) k = [⟨0, noneRx, k⟩] := by rw [tokN, if_pos h, if_pos h0]
theorem tokN_ok {n k m : Nat} {c : Int} {x : Rx} (h : k < s.length) (h1 : tokAt a sets (s.drop k) = (c, x, m)) (h0 : c ≠ 0) : tokN a sets s (n + 1) k = ⟨c, x, k⟩ :: tokN a sets s n (k + m) := by
  rw [tokN, if_pos h, h1, if_neg h0]
theorem bestN_lt : ∀ i, (bestN a t i).2 = 0 ∧ (bestN a t i).1 = 0 ∨ (bestN a t i).1 < i
  | 0 => .inl ⟨rfl, rfl⟩
  | i + 1 => by
    rw [bestN]
    split
    · exact .inr (Nat.lt_succ_self i)
    · rcases bestN_lt i with h | h
      · exact .inl h
      · exact .inr (by omega)
theorem bestN_yes {i : Nat} (h : (bestN a t i).2 < (a.getD i default).text.length) (h2 : preB t (a.getD i default).text = true) : bestN a t (i + 1) = (i, (a.getD i default).text.length) := by
  rw [bestN, if_pos ⟨h, h2⟩]
theorem bestN_no {i : Nat} (h : ¬ ((bestN a t i).2 < (a.getD i default).text.length ∧ preB t (a.getD i default).text = true)) : bestN a t (i + 1) = bestN a t i := by
  rw [bestN, if_neg h]
theorem tokAt_best (h : 0 < (bestN a t a.length).2) : tokAt a sets t = (97, oneR [((bestN a t a.length).1 : Int)], (bestN a t a.length).2) := if_pos h
section
variable (hb : ¬ 0 < (bestN a t a.length).2)
theorem tokAt_dot (hb : ¬ 0 < (bestN a t a.length).2) (h : ((t.getD 0 default).toNat : Int) = 46) : tokAt a sets t = (97, oneR ((List.range a.length).map fun (k : Nat) => (k : Int)), 1) := by unfold tokAt; rw [if_neg hb, if_pos h]
theorem tokAt_minus (hb : ¬ 0 < (bestN a t a.length).2) (h1 : ¬ ((t.getD 0 default).toNat : Int) = 46) (h : ((t.getD 0 default).toNat : Int) = 45) : tokAt a sets t = (97, oneR [63], 1) := by unfold tokAt; rw [if_neg hb, if_neg h1, if_pos h]
theorem tokAt_hash (hb : ¬ 0 < (bestN a t a.length).2) (h1 : ¬ ((t.getD 0 default).toNat : Int) = 46) (h2 : ¬ ((t.getD 0 default).toNat : Int) = 45) (h : ((t.getD 0 default).toNat : Int) = 35) : tokAt a sets t = (97, oneR [62], 1) := by unfold tokAt; rw [if_neg hb, if_neg h1, if_neg h2, if_pos h]
theorem tokAt_mark (hb : ¬ 0 < (bestN a t a.length).2) (h1 : ¬ ((t.getD 0 default).toNat : Int) = 46) (h2 : ¬ ((t.getD 0 default).toNat : Int) = 45) (h3 : ¬ ((t.getD 0 default).toNat : Int) = 35) (h : 0 ≤ Lib.indexByte [124, 40, 41, 42, 63] (t.getD 0 default)) :
    tokAt a sets t = (((t.getD 0 default).toNat : Int), noneRx, 1) := by unfold tokAt; rw [if_neg hb, if_neg h1, if_neg h2, if_neg h3, if_pos h]
theorem tokAt_rest (hb : ¬ 0 < (bestN a t a.length).2) (h1 : ¬ ((t.getD 0 default).toNat : Int) = 46) (h2 : ¬ ((t.getD 0 default).toNat : Int) = 45) (h3 : ¬ ((t.getD 0 default).toNat : Int) = 35) (h4 : ¬ 0 ≤ Lib.indexByte [124, 40, 41, 42, 63] (t.getD 0 default)) :
    tokAt a sets t = if ((t.getD 0 default).toNat : Int) ≠ 123 ∨ Lib.indexByte (t.drop 1) 125 < 0 then (0, noneRx, 0) else if nameB t = [] then (97, noneRx, 2)
      else if 0 ≤ idxF (fun x : SetT => decide (x.name = nameB t)) sets ∧ setOk (sets.getD (idxF (fun x : SetT => decide (x.name = nameB t)) sets).toNat default).syms = true then
        (97, oneR (sets.getD (idxF (fun x : SetT => decide (x.name = nameB t)) sets).toNat default).syms, (nameB t).length + 2) else (0, noneRx, 0) := by
  unfold tokAt; rw [if_neg hb, if_neg h1, if_neg h2, if_neg h3, if_neg h4]
end
end
theorem idxF_lt {α : Type} [Inhabited α] {p : α → Bool} {l : List α} : idxF p l < l.length := by
  unfold idxF
  split
  · next h =>
    obtain ⟨x, hx, hp⟩ := List.any_eq_true.1 h
    have := List.findIdx_lt_length_of_exists ⟨x, hx, hp⟩
    omega
  · omega
theorem preB_len {s t : List UInt8} (h : preB s t = true) : t.length ≤ s.length := by
  unfold preB at h; rw [Bool.and_eq_true, decide_eq_true_eq] at h; exact h.1
theorem bestN_le (a : List Letter) (t : List UInt8) : ∀ i, (bestN a t i).2 ≤ t.length
  | 0 => Nat.zero_le _
  | i + 1 => by
    rw [bestN]
    split
    · next h => exact preB_len h.2
    · exact bestN_le a t i
theorem cutB_nil {s : List UInt8} {c : UInt8} (h : 0 ≤ Lib.indexByte s c) : (cutB s c).length = (Lib.indexByte s c).toNat := by
  have := indexByte_lt (l := s) (c := c)
  unfold cutB; rw [if_pos h, List.length_take]; omega
theorem cutB_le {s : List UInt8} {c : UInt8} : (cutB s c).length ≤ s.length := by
  unfold cutB; split
  · rw [List.length_take]; omega
  · exact Nat.le_refl _
theorem mark_ne {c : UInt8} (h : 0 ≤ Lib.indexByte [124, 40, 41, 42, 63] c) : ((c.toNat : Nat) : Int) ≠ 0 := fun e => by
  have e1 : c.toNat = 0 := by omega
  have e2 : c = 0 := UInt8.toNat_inj.1 e1
  subst e2
  revert h; decide
theorem tokAt_len {a : List Letter} {sets : List SetT} {t : List UInt8} (h : 0 < t.length) : (tokAt a sets t).2.2 ≤ t.length := by
  have hb := bestN_le a t a.length
  have hx := indexByte_lt (l := t.drop 1) (c := 125)
  rw [List.length_drop] at hx
  unfold tokAt
  split
  · exact hb
  · split
    · exact h
    · split
      · exact h
      · split
        · exact h
        · split
          · exact h
          · split
            · exact Nat.zero_le _
            · next hc =>
              have hn : (nameB t).length = (Lib.indexByte (t.drop 1) 125).toNat := cutB_nil (by omega)
              split
              · show 2 ≤ t.length; omega
              · split
                · show (nameB t).length + 2 ≤ t.length; omega
                · exact Nat.zero_le _
theorem tk_next {a : List Letter} {sets : List SetT} {s : List UInt8} {k n m : Nat} {c : Int} {x : Rx} {acc L : List Tok} (hk : k < s.length) (hn : s.length - k ≤ n) (hacc : acc ++ tokN a sets s n k = L) (hl : acc.length ≤ k)
    (h : tokAt a sets (s.drop k) = (c, x, m)) (h0 : c ≠ 0) (hm : 0 < m) : k + m ≤ s.length ∧ s.length - (k + m) ≤ n - 1 ∧ (acc ++ [⟨c, x, k⟩]) ++ tokN a sets s (n - 1) (k + m) = L ∧ (acc ++ [(⟨c, x, k⟩ : Tok)]).length ≤ k + m := by
  have h1 := tokAt_len (a := a) (sets := sets) (t := s.drop k) (by rw [List.length_drop]; omega)
  rw [h, List.length_drop] at h1
  have h1' : m ≤ s.length - k := h1
  refine ⟨by omega, by omega, ?_, by simp; omega⟩
  obtain ⟨n, rfl⟩ : ∃ n', n = n' + 1 := ⟨n - 1, by omega⟩
  rw [← hacc, tokN_ok hk h h0, List.append_assoc]; rfl
theorem tk_bad {a : List Letter} {sets : List SetT} {s : List UInt8} {k n : Nat} {acc L : List Tok} (hk : k < s.length) (hn : s.length - k ≤ n) (hacc : acc ++ tokN a sets s n k = L) (h0 : (tokAt a sets (s.drop k)).1 = 0) : acc ++ [⟨0, noneRx, k⟩] = L := by
  obtain ⟨n, rfl⟩ : ∃ n', n = n' + 1 := ⟨n - 1, by omega⟩
  rw [← hacc, tokN_bad hk h0]
theorem tk_end {a : List Letter} {sets : List SetT} {s : List UInt8} {k n : Nat} {acc L : List Tok} (hk : s.length ≤ k) (hacc : acc ++ tokN a sets s n k = L) : acc ++ [⟨101, noneRx, k⟩] = L := by rw [← hacc, tokN_end hk]
end Go.Wb

