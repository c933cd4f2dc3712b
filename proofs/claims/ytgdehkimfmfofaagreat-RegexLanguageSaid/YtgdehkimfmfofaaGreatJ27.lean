/-
  Plain functions: what RegexLanguage goes through, and that its answers agree.
-/
import Derived.Test.YtgdehkimfmfofaaGreatJ23
import Derived.Test.YtgdehkimfmfofaaGreatJ26
set_option linter.unusedVariables false
set_option linter.unusedSimpArgs false
namespace Go.Wb
set_option linter.unusedVariables false
set_option linter.unusedSimpArgs false
open Go.Am
inductive Star (P : List Int → Prop) : List Int → Prop
  | nil : Star P []
  | cons {u v : List Int} : P u → Star P v → Star P (u ++ v)
mutual
def sem : Rx → List Int → Prop
  | .mk k s l => fun w => if k = 1 then w = [] else if k = 2 then ∃ a, w = [a] ∧ a ∈ s else if k = 3 then semQ l w else if k = 4 then semA l w else if k = 5 then semK l w else False
def semQ : List Rx → List Int → Prop
  | [] => fun w => w = []
  | x :: l => fun w => ∃ u v, w = u ++ v ∧ sem x u ∧ semQ l v
def semA : List Rx → List Int → Prop
  | [] => fun _ => False
  | x :: l => fun w => sem x w ∨ semA l w
def semK : List Rx → List Int → Prop
  | [] => fun w => w = []
  | x :: _ => fun w => Star (sem x) w
end
theorem sem_eq (r : Rx) (w : List Int) : sem r w = (if r.kind = 1 then w = [] else if r.kind = 2 then ∃ a, w = [a] ∧ a ∈ r.syms else if r.kind = 3 then semQ r.kids w else if r.kind = 4 then semA r.kids w else
    if r.kind = 5 then semK r.kids w else False) := by cases r with | mk k s l => rw [sem]; rfl
theorem sem_0 {r : Rx} (h : r.kind = 0) (w : List Int) : ¬ sem r w := by rw [sem_eq, if_neg (by omega), if_neg (by omega), if_neg (by omega), if_neg (by omega), if_neg (by omega)]; exact id
theorem sem_1 {r : Rx} (h : r.kind = 1) (w : List Int) : sem r w ↔ w = [] := by rw [sem_eq, if_pos h]
theorem sem_2 {r : Rx} (h : r.kind = 2) (w : List Int) : sem r w ↔ ∃ a, w = [a] ∧ a ∈ r.syms := by rw [sem_eq, if_neg (by omega), if_pos h]
theorem sem_3 {r : Rx} (h : r.kind = 3) (w : List Int) : sem r w ↔ semQ r.kids w := by rw [sem_eq, if_neg (by omega), if_neg (by omega), if_pos h]
theorem sem_4 {r : Rx} (h : r.kind = 4) (w : List Int) : sem r w ↔ semA r.kids w := by rw [sem_eq, if_neg (by omega), if_neg (by omega), if_neg (by omega), if_pos h]
theorem sem_5 {r : Rx} (h : r.kind = 5) (w : List Int) : sem r w ↔ semK r.kids w := by rw [sem_eq, if_neg (by omega), if_neg (by omega), if_neg (by omega), if_neg (by omega), if_pos h]
theorem semQ_nil (w : List Int) : semQ [] w ↔ w = [] := by rw [semQ]
theorem semQ_cons (x : Rx) (l : List Rx) (w : List Int) : semQ (x :: l) w ↔ ∃ u v, w = u ++ v ∧ sem x u ∧ semQ l v := by rw [semQ]
theorem semA_mem {w : List Int} : ∀ {l : List Rx}, semA l w ↔ ∃ x ∈ l, sem x w
  | [] => by rw [semA]; simp
  | x :: l => by rw [semA]; show sem x w ∨ semA l w ↔ _; rw [semA_mem]; simp
theorem semK_one (x : Rx) (w : List Int) : semK [x] w ↔ Star (sem x) w := by rw [semK]
theorem semQ_one (x : Rx) (w : List Int) : semQ [x] w ↔ sem x w := by
  rw [semQ_cons]
  constructor
  · rintro ⟨u, v, rfl, hu, hv⟩
    rw [semQ_nil] at hv
    rw [hv, List.append_nil]; exact hu
  · exact fun h => ⟨w, [], (List.append_nil w).symm, h, (semQ_nil _).2 rfl⟩
theorem semQ_app : ∀ {l m : List Rx} {w : List Int}, semQ (l ++ m) w ↔ ∃ u v, w = u ++ v ∧ semQ l u ∧ semQ m v
  | [], m, w => by
    rw [List.nil_append]
    constructor
    · exact fun h => ⟨[], w, rfl, (semQ_nil _).2 rfl, h⟩
    · rintro ⟨u, v, rfl, hu, hv⟩
      rw [semQ_nil] at hu
      rw [hu]; exact hv
  | x :: l, m, w => by
    rw [List.cons_append, semQ_cons]
    constructor
    · rintro ⟨u, v, rfl, hu, hv⟩
      obtain ⟨u', v', rfl, hu', hv'⟩ := semQ_app.1 hv
      exact ⟨u ++ u', v', (List.append_assoc _ _ _).symm, (semQ_cons _ _ _).2 ⟨u, u', rfl, hu, hu'⟩, hv'⟩
    · rintro ⟨u, v, rfl, hu, hv⟩
      obtain ⟨u', v', rfl, hu', hv'⟩ := (semQ_cons _ _ _).1 hu
      exact ⟨u', v' ++ v, List.append_assoc _ _ _, hu', semQ_app.2 ⟨v', v, rfl, hv', hv⟩⟩
theorem Star.mono {P Q : List Int → Prop} (h : ∀ w, P w → Star Q w) {w : List Int} (hw : Star P w) : Star Q w := by
  have app : ∀ {u v : List Int}, Star Q u → Star Q v → Star Q (u ++ v) := fun {u v} hu hv => by
    induction hu with
    | nil => exact hv
    | cons h1 _ ih => rw [List.append_assoc]; exact .cons h1 ih
  induction hw with
  | nil => exact .nil
  | cons h1 _ ih => exact app (h _ h1) ih
theorem Star.one {P : List Int → Prop} {w : List Int} (h : P w) : Star P w := by
  have := Star.cons h .nil
  rwa [List.append_nil] at this
theorem Star.congr {P Q : List Int → Prop} (h : ∀ w, P w ↔ Q w) (w : List Int) : Star P w ↔ Star Q w :=
  ⟨Star.mono fun w hw => .one ((h w).1 hw), Star.mono fun w hw => .one ((h w).2 hw)⟩
theorem Star.none {P : List Int → Prop} (h : ∀ w, P w → w = []) {w : List Int} (hw : Star P w) : w = [] := by
  induction hw with
  | nil => rfl
  | cons h1 _ ih => rw [h _ h1, ih]; rfl
theorem Star.head {P : List Int → Prop} {a : Int} {w : List Int} : Star P (a :: w) ↔ ∃ u v, w = u ++ v ∧ P (a :: u) ∧ Star P v := by
  constructor
  · intro h
    have : ∀ z, Star P z → z = a :: w → ∃ u v, w = u ++ v ∧ P (a :: u) ∧ Star P v := by
      intro z hz
      induction hz with
      | nil => intro e; cases e
      | @cons u v h1 h2 ih =>
        intro e
        match u, e with
        | [], e => exact ih e
        | b :: u, e =>
          obtain ⟨rfl, e2⟩ := List.cons.inj e
          exact ⟨u, v, e2.symm, h1, h2⟩
    exact this _ h rfl
  · rintro ⟨u, v, rfl, h1, h2⟩
    exact .cons (u := a :: u) h1 h2
theorem Star.rev {P Q : List Int → Prop} (h : ∀ w, P w → Q w.reverse) {w : List Int} (hw : Star P w) : Star Q w.reverse := by
  have app : ∀ {u v : List Int}, Star Q u → Star Q v → Star Q (u ++ v) := fun {u v} hu hv => by
    induction hu with
    | nil => exact hv
    | cons h1 _ ih => rw [List.append_assoc]; exact .cons h1 ih
  induction hw with
  | nil => exact .nil
  | cons h1 _ ih => rw [List.reverse_append]; exact app ih (.one (h _ h1))
theorem acc_sem (x : Rx) : accR x = true ↔ sem x [] := by
  refine rx_ind (P := fun x => accR x = true ↔ sem x []) (fun x ih => ?_) x
  rw [accR_eq]
  by_cases h3 : x.kind = 3
  · rw [if_pos h3, sem_3 h3]
    have : ∀ l : List Rx, (∀ x ∈ l, accR x = true ↔ sem x []) → (l.all accR = true ↔ semQ l []) := by
      intro l
      induction l with
      | nil => intro _; rw [semQ_nil]; simp
      | cons y l ihl =>
        intro h
        have h1 := ihl fun z hz => h z (List.mem_cons_of_mem _ hz)
        rw [List.all_cons, Bool.and_eq_true, h y List.mem_cons_self, h1, semQ_cons]
        constructor
        · exact fun h => ⟨[], [], rfl, h.1, h.2⟩
        · rintro ⟨u, v, e, hu, hv⟩
          have e' := List.append_eq_nil_iff.1 e.symm
          rw [e'.1] at hu
          rw [e'.2] at hv
          exact ⟨hu, hv⟩
    exact this _ ih
  · rw [if_neg h3]
    by_cases h4 : x.kind = 4
    · rw [if_pos h4, sem_4 h4, semA_mem, List.any_eq_true]
      exact exists_congr fun y => and_congr_right fun hy => ih y hy
    · rw [if_neg h4, decide_eq_true_eq]
      by_cases h1 : x.kind = 1
      · rw [sem_1 h1]; exact ⟨fun _ => rfl, fun _ => .inl h1⟩
      · by_cases h5 : x.kind = 5
        · rw [sem_5 h5]
          refine ⟨fun _ => ?_, fun _ => .inr h5⟩
          match x.kids with
          | [] => rw [semK]
          | y :: l => rw [semK]; exact .nil
        · refine ⟨fun h => absurd h (by omega), fun h => ?_⟩
          by_cases h2 : x.kind = 2
          · obtain ⟨a, e, _⟩ := (sem_2 h2 _).1 h
            cases e
          · rw [sem_eq, if_neg h1, if_neg h2, if_neg h3, if_neg h4, if_neg h5] at h; cases h
theorem sem_seqF (x : Rx) (w : List Int) : semQ (seqF x) w ↔ sem x w := by
  by_cases h3 : x.kind = 3
  · rw [seqF_3 h3, sem_3 h3]
  · by_cases h1 : x.kind = 1
    · rw [seqF_1 h1, semQ_nil, sem_1 h1]
    · rw [seqF_x h3 h1, semQ_one]
theorem sem_seqL : ∀ (l : List Rx) (w : List Int), semQ (seqL l) w ↔ semQ l w
  | [], w => Iff.rfl
  | x :: l, w => by
    have e : seqL (x :: l) = seqF x ++ seqL l := rfl
    rw [e, semQ_app, semQ_cons]
    exact exists_congr fun u => exists_congr fun v => and_congr_right fun _ => and_congr (sem_seqF x u) (sem_seqL l v)
theorem semQ_all {l : List Rx} {w : List Int} (h : semQ l w) : ∀ x ∈ l, ∃ u, sem x u := by
  induction l generalizing w with
  | nil => intro x hx; cases hx
  | cons y l ih =>
    obtain ⟨u, v, rfl, hu, hv⟩ := (semQ_cons _ _ _).1 h
    intro x hx
    rcases List.mem_cons.1 hx with rfl | hx
    · exact ⟨u, hu⟩
    · exact ih hv x hx
theorem sem_seqN (l : List Rx) (w : List Int) : sem (seqN l) w ↔ semQ l w := by
  unfold seqN
  by_cases h : l.any (fun x => decide (x.kind = 0)) = true
  · rw [if_pos h]
    obtain ⟨x, hx, h0⟩ := List.any_eq_true.1 h
    refine ⟨fun q => absurd q (sem_0 rfl w), fun q => ?_⟩
    obtain ⟨u, hu⟩ := semQ_all q x hx
    exact absurd hu (sem_0 (of_decide_eq_true h0) u)
  · rw [if_neg h, ← sem_seqL l]
    generalize seqL l = s
    match s with
    | [] => exact (sem_1 (r := emptyRx) rfl w).trans (semQ_nil w).symm
    | [y] => exact (semQ_one y w).symm
    | y :: z :: s => rw [seqE_2 (by simp) (by simp)]; exact sem_3 rfl w
theorem sem_altE (k : List Rx) (w : List Int) : sem (altE k) w ↔ ∃ x ∈ k, sem x w := by
  match k with
  | [] => exact ⟨fun h => absurd h (sem_0 rfl w), fun ⟨x, hx, _⟩ => by cases hx⟩
  | [y] => exact ⟨fun h => ⟨y, List.mem_cons_self, h⟩, fun ⟨x, hx, h⟩ => by rw [List.mem_singleton.1 hx] at h; exact h⟩
  | y :: z :: k => rw [altE_2 (by simp) (by simp)]; exact (sem_4 rfl w).trans semA_mem
theorem sem_altF (x : Rx) (w : List Int) : (∃ y ∈ altF x, sem y w) ↔ sem x w := by
  by_cases h4 : x.kind = 4
  · rw [altF_4 h4, sem_4 h4, semA_mem]
  · rw [altF_x h4]
    exact ⟨fun ⟨y, hy, h⟩ => by rw [List.mem_singleton.1 hy] at h; exact h, fun h => ⟨x, List.mem_cons_self, h⟩⟩
theorem sem_altN {l : List Rx} (w : List Int) : sem (altN l) w ↔ ∃ x ∈ l, sem x w := by
  have hC : (∃ x ∈ altC (altD l), sem x w) ↔ ∃ x ∈ altD l, sem x w := by
    by_cases h : 1 < (altD l).length ∧ ((altD l).getD 0 default).kind = 1 ∧ ((altD l).drop 1).any accR = true
    · rw [altC_t h.1 h.2.1 h.2.2]
      constructor
      · exact fun ⟨x, hx, hs⟩ => ⟨x, List.mem_of_mem_drop hx, hs⟩
      · rintro ⟨x, hx, hs⟩
        by_cases e : x = (altD l).getD 0 default
        · obtain ⟨y, hy, ha⟩ := List.any_eq_true.1 h.2.2
          rw [e, sem_1 h.2.1] at hs
          exact ⟨y, hy, by rw [hs]; exact (acc_sem y).1 ha⟩
        · exact ⟨x, mem_drop1 hx e, hs⟩
    · rw [altC_f h]
  unfold altN
  rw [sem_altE, hC]
  have hL : (∃ x ∈ altL l, sem x w) ↔ ∃ x ∈ l, sem x w := by
    constructor
    · rintro ⟨x, hx, hs⟩
      obtain ⟨y, hy, hxy⟩ := altL_mem.1 hx
      exact ⟨y, hy, (sem_altF y w).1 ⟨x, hxy, hs⟩⟩
    · rintro ⟨y, hy, hs⟩
      obtain ⟨x, hx, hs⟩ := (sem_altF y w).2 hs
      exact ⟨x, altL_mem.2 ⟨y, hy, hx⟩, hs⟩
  rw [← hL]
  constructor
  · rintro ⟨x, hx, hs⟩
    have h1 := altD_mem hx
    rw [altM_mem] at h1
    rcases h1 with h1 | ⟨_, rfl⟩
    · exact ⟨x, (altK_mem.1 h1).1, hs⟩
    · obtain ⟨a, ha, hm⟩ := (sem_2 rfl w).1 hs
      have hm' : a ∈ uniI (altS l) := hm
      obtain ⟨y, hy, hk, hz⟩ := altS_mem.1 (uniI_mem.1 hm')
      exact ⟨y, hy, (sem_2 hk w).2 ⟨a, ha, hz⟩⟩
  · rintro ⟨x, hx, hs⟩
    by_cases h0 : x.kind = 0
    · exact absurd hs (sem_0 h0 w)
    · by_cases h2 : x.kind = 2
      · obtain ⟨a, ha, hm⟩ := (sem_2 h2 w).1 hs
        have hz : a ∈ altS l := altS_mem.2 ⟨x, hx, h2, hm⟩
        refine ⟨.mk 2 (uniI (altS l)) [], ?_, (sem_2 rfl w).2 ⟨a, ha, uniI_mem.2 hz⟩⟩
        rw [altD_uni, uniR_mem, altM_mem]
        exact .inr ⟨List.length_pos_iff_exists_mem.2 ⟨a, hz⟩, rfl⟩
      · refine ⟨x, ?_, hs⟩
        rw [altD_uni, uniR_mem, altM_mem]
        exact .inl (altK_mem.2 ⟨hx, h0, h2⟩)
theorem sem_starN {x : Rx} (h : Nf x) (w : List Int) : sem (starN x) w ↔ Star (sem x) w := by
  by_cases h01 : x.kind = 0 ∨ x.kind = 1
  · rw [starN_e h01, sem_1 rfl]
    refine ⟨fun e => by rw [e]; exact .nil, fun q => Star.none (fun u hu => ?_) q⟩
    rcases h01 with k | k
    · exact absurd hu (sem_0 k u)
    · exact (sem_1 k u).1 hu
  · by_cases h5 : x.kind = 5
    · obtain ⟨y, e, _⟩ := h.k5 h5
      rw [starN_5 h5]
      have hy : ∀ w, sem x w ↔ Star (sem y) w := fun w => by rw [e]; exact (sem_5 rfl w).trans (semK_one y w)
      exact ⟨Star.one, fun q => (hy w).2 (Star.mono (fun u hu => (hy u).1 hu) q)⟩
    · rw [starN_x h01 h5]
      refine (sem_5 rfl w).trans ((semK_one _ w).trans ?_)
      by_cases q : x.kind = 4 ∧ (x.kids.getD 0 default).kind = 1
      · obtain ⟨e, h2, hn, hk4, hs, ht, ha⟩ := h.k4 q.1
        have hx : ∀ u, sem x u ↔ ∃ y ∈ x.kids, sem y u := fun u => (sem_4 q.1 u).trans semA_mem
        have hd : ∀ u, (∃ y ∈ x.kids, sem y u) ↔ u = [] ∨ ∃ y ∈ x.kids.drop 1, sem y u := fun u => by
          constructor
          · rintro ⟨y, hy, hs⟩
            by_cases e : y = x.kids.getD 0 default
            · rw [e, sem_1 q.2] at hs; exact .inl hs
            · exact .inr ⟨y, mem_drop1 hy e, hs⟩
          · rintro (rfl | ⟨y, hy, hs⟩)
            · exact ⟨_, kid_mem (i := 0) (by omega), (sem_1 q.2 _).2 rfl⟩
            · exact ⟨y, List.mem_of_mem_drop hy, hs⟩
        have hB : ∀ u, sem (starB x) u ↔ ∃ y ∈ x.kids.drop 1, sem y u := fun u => by
          by_cases q2 : x.kids.length = 2
          · rw [starB_2 q q2]
            have hl : x.kids.drop 1 = [x.kids.getD 1 default] := by rw [drop_cons (by omega), List.drop_of_length_le (by omega)]
            rw [hl]
            exact ⟨fun h => ⟨_, List.mem_cons_self, h⟩, fun ⟨y, hy, h⟩ => by rw [List.mem_singleton.1 hy] at h; exact h⟩
          · rw [starB_m q q2]
            exact (sem_4 (r := .mk x.kind x.syms (x.kids.drop 1)) q.1 u).trans semA_mem
        constructor
        · exact Star.mono fun u hu => .one ((hx u).2 ((hd u).2 (.inr ((hB u).1 hu))))
        · refine Star.mono fun u hu => ?_
          rcases (hd u).1 ((hx u).1 hu) with rfl | hu
          · exact .nil
          · exact .one ((hB u).2 hu)
      · rw [starB_n q]
theorem sem_dR (a : Int) {x : Rx} (h : Nf x) : ∀ w, sem (dR a x) w ↔ sem x (a :: w) := by
  induction h with
  | none => exact fun w => by rw [dR_x (by decide) (fun h => by cases h), dL_x (by decide) (by decide), altN_nil]; exact ⟨fun q => absurd q (sem_0 rfl w), fun q => absurd q (sem_0 rfl _)⟩
  | empty => exact fun w => by rw [dR_x (by decide) (fun h => by cases h), dL_x (by decide) (by decide), altN_nil]; exact ⟨fun q => absurd q (sem_0 rfl w), fun q => absurd ((sem_1 rfl _).1 q) (by simp)⟩
  | @set s h =>
    intro w
    rw [dR_eq, if_pos (show (Rx.mk 2 s []).kind = 2 from rfl), sem_2 (r := .mk 2 s []) rfl]
    show sem (if a ∈ s then _ else _) w ↔ ∃ b, _ ∧ b ∈ s
    by_cases q : a ∈ s
    · rw [if_pos q, sem_1 rfl]
      constructor
      · rintro rfl; exact ⟨a, rfl, q⟩
      · rintro ⟨b, e, _⟩; exact (List.cons.inj e).2
    · rw [if_neg q]
      refine ⟨fun h => absurd h (sem_0 rfl w), fun ⟨b, e, hb⟩ => ?_⟩
      rw [(List.cons.inj e).1] at q; exact absurd hb q
  | @seq l h2 hn hk ih =>
    intro w
    rw [dR_x (by simp [Rx.kind]) (by simp [Rx.kind]), dL_3 rfl, sem_altN, sem_3 rfl]
    show (∃ x ∈ dRq a l, _) ↔ semQ l _
    clear h2 hk
    induction l with
    | nil =>
      rw [dRq, semQ_nil]
      exact ⟨fun ⟨x, hx, _⟩ => (by cases hx), fun e => (by cases e)⟩
    | cons x l ihl =>
      have h1 := ihl (fun y hy => hn y (List.mem_cons_of_mem _ hy)) fun y hy => ih y (List.mem_cons_of_mem _ hy)
      have h2 : sem (seqN [dR a x, seqN l]) w ↔ ∃ u v, w = u ++ v ∧ sem x (a :: u) ∧ semQ l v := by
        rw [sem_seqN, semQ_cons]
        refine exists_congr fun u => exists_congr fun v => and_congr_right fun _ => and_congr (ih x List.mem_cons_self u) ?_
        rw [semQ_one, sem_seqN]
      rw [dRq, semQ_cons]
      constructor
      · rintro ⟨y, hy, hs⟩
        rcases List.mem_cons.1 hy with rfl | hy
        · obtain ⟨u, v, rfl, hu, hv⟩ := h2.1 hs
          exact ⟨a :: u, v, rfl, hu, hv⟩
        · split at hy
          · next ha => exact ⟨[], a :: w, rfl, (acc_sem x).1 ha, h1.1 ⟨y, hy, hs⟩⟩
          · cases hy
      · rintro ⟨u, v, e, hu, hv⟩
        match u, e with
        | [], e =>
          have e' : v = a :: w := e.symm
          rw [e'] at hv
          obtain ⟨y, hy, hs⟩ := h1.2 hv
          exact ⟨y, List.mem_cons_of_mem _ (by rw [if_pos ((acc_sem x).2 hu)]; exact hy), hs⟩
        | b :: u, e =>
          obtain ⟨rfl, e2⟩ := List.cons.inj e
          exact ⟨_, List.mem_cons_self, h2.2 ⟨u, v, e2, hu, hv⟩⟩
  | @alt l h2 hn hk h4 h5 h6 ih =>
    intro w
    rw [dR_x (by simp [Rx.kind]) (by simp [Rx.kind]), dL_4 rfl, sem_altN, sem_4 rfl, semA_mem]
    show (∃ x ∈ l.map (dR a), _) ↔ ∃ x ∈ l, _
    constructor
    · rintro ⟨y, hy, hs⟩
      obtain ⟨z, hz, rfl⟩ := List.mem_map.1 hy
      exact ⟨z, hz, (ih z hz w).1 hs⟩
    · rintro ⟨z, hz, hs⟩
      exact ⟨_, List.mem_map.2 ⟨z, hz, rfl⟩, (ih z hz w).2 hs⟩
  | @star y hn hk h4 ih =>
    intro w
    have hs : ∀ w, sem (.mk 5 [] [y]) w ↔ Star (sem y) w := fun w => (sem_5 rfl w).trans (semK_one y w)
    rw [dR_5k rfl (by show 0 < 1; decide), sem_seqN, semQ_cons, hs, Star.head]
    refine exists_congr fun u => exists_congr fun v => and_congr_right fun _ => and_congr (ih u) ?_
    rw [semQ_one, hs]
theorem sem_Dv {x : Rx} (h : Nf x) : ∀ u w, sem (Dv x u) w ↔ sem x (u ++ w) := fun u => by
  refine snoc_ind (P := fun u => ∀ w, sem (Dv x u) w ↔ sem x (u ++ w)) (fun w => Iff.rfl) (fun u b ih w => ?_) u
  rw [Dv_snoc, sem_dR b (Dv_nf h u), ih, List.append_assoc]; rfl
theorem acc_Dv {x : Rx} (h : Nf x) (u : List Int) : accR (Dv x u) = true ↔ sem x u := by rw [acc_sem, sem_Dv h, List.append_nil]
theorem semQ_map {f : Rx → Rx} : ∀ {l : List Rx}, (∀ x ∈ l, ∀ w, sem (f x) w ↔ sem x w) → ∀ w, semQ (l.map f) w ↔ semQ l w
  | [], _, w => Iff.rfl
  | x :: l, h, w => by
    rw [List.map_cons, semQ_cons, semQ_cons]
    exact exists_congr fun u => exists_congr fun v => and_congr_right fun _ => and_congr (h x List.mem_cons_self u) (semQ_map (fun y hy => h y (List.mem_cons_of_mem _ hy)) v)
theorem semQ_rev {f : Rx → Rx} : ∀ {l : List Rx}, (∀ x ∈ l, ∀ w, sem (f x) w ↔ sem x w.reverse) → ∀ w, semQ (l.map f).reverse w ↔ semQ l w.reverse
  | [], _, w => by
    rw [List.map_nil, List.reverse_nil, semQ_nil, semQ_nil, List.reverse_eq_nil_iff]
  | x :: l, h, w => by
    rw [List.map_cons, List.reverse_cons, semQ_app, semQ_cons]
    have ih := semQ_rev (l := l) fun y hy => h y (List.mem_cons_of_mem _ hy)
    constructor
    · rintro ⟨u, v, rfl, hu, hv⟩
      rw [semQ_one] at hv
      exact ⟨v.reverse, u.reverse, List.reverse_append, (h x List.mem_cons_self v).1 hv, (ih u).1 hu⟩
    · rintro ⟨u, v, e, hu, hv⟩
      refine ⟨v.reverse, u.reverse, ?_, (ih _).2 (by rw [List.reverse_reverse]; exact hv), (semQ_one _ _).2 ((h x List.mem_cons_self _).2 (by rw [List.reverse_reverse]; exact hu))⟩
      rw [← List.reverse_append, ← e, List.reverse_reverse]
theorem sem_build (r : Rx) : validR r = true → (∀ w, sem (buildR false r) w ↔ sem r w) ∧ ∀ w, sem (buildR true r) w ↔ sem r w.reverse := by
  refine rx_ind (P := fun r => validR r = true → (∀ w, sem (buildR false r) w ↔ sem r w) ∧ ∀ w, sem (buildR true r) w ↔ sem r w.reverse) (fun r ih hv => ?_) r
  have hf : ∀ x ∈ r.kids, ∀ w, sem (buildR false x) w ↔ sem x w := fun x hx => (ih x hx (valid_kids hv x hx)).1
  have ht : ∀ x ∈ r.kids, ∀ w, sem (buildR true x) w ↔ sem x w.reverse := fun x hx => (ih x hx (valid_kids hv x hx)).2
  by_cases h3 : r.kind = 3
  · exact ⟨fun w => by rw [buildR_3f h3, sem_seqN, sem_3 h3, semQ_map hf], fun w => by rw [buildR_3t h3, sem_seqN, sem_3 h3, semQ_rev ht]⟩
  · by_cases h4 : r.kind = 4
    · have hm : ∀ t w, (∃ x ∈ r.kids.map (buildR t), sem x w) ↔ ∃ x ∈ r.kids, sem (buildR t x) w := fun t w =>
        ⟨fun ⟨y, hy, hs⟩ => by obtain ⟨z, hz, rfl⟩ := List.mem_map.1 hy; exact ⟨z, hz, hs⟩, fun ⟨z, hz, hs⟩ => ⟨_, List.mem_map.2 ⟨z, hz, rfl⟩, hs⟩⟩
      exact ⟨fun w => by rw [buildR_4 h4, sem_altN, hm, sem_4 h4, semA_mem]; exact exists_congr fun x => and_congr_right fun hx => hf x hx w,
        fun w => by rw [buildR_4 h4, sem_altN, hm, sem_4 h4, semA_mem]; exact exists_congr fun x => and_congr_right fun hx => ht x hx w⟩
    · by_cases h5 : r.kind = 5
      · obtain ⟨y, hy⟩ := List.length_eq_one_iff.1 (valid_5 hv h5).2
        have hm : y ∈ r.kids := by rw [hy]; exact List.mem_cons_self
        have hb := fun t => build_nf t y (valid_kids hv y hm)
        have e : ∀ t, (r.kids.map (buildR t)).getD 0 default = buildR t y := fun t => by rw [hy]; rfl
        refine ⟨fun w => ?_, fun w => ?_⟩
        · rw [buildR_5 h5, e, sem_starN (hb _), sem_5 h5, hy, semK_one]
          exact Star.congr (hf y hm) w
        · rw [buildR_5 h5, e, sem_starN (hb _), sem_5 h5, hy, semK_one]
          constructor
          · exact Star.rev fun u hu => (ht y hm u).1 hu
          · intro q
            have := Star.rev (Q := sem (buildR true y)) (fun u hu => (ht y hm _).2 (by rw [List.reverse_reverse]; exact hu)) q
            rwa [List.reverse_reverse] at this
      · have hk := valid_kinds hv
        have e : ∀ t w, sem (buildR t r) w ↔ sem r w := fun t w => by
          rw [buildR_x h3 h4 h5]
          by_cases h1 : r.kind = 1
          · rw [sem_1 h1, sem_1 (r := .mk r.kind r.syms []) h1]
          · by_cases h2 : r.kind = 2
            · rw [sem_2 h2, sem_2 (r := .mk r.kind r.syms []) h2]; exact Iff.rfl
            · exact ⟨fun q => absurd q (sem_0 (r := .mk r.kind r.syms []) (by show r.kind = 0; omega) w), fun q => absurd q (sem_0 (by omega) _)⟩
        refine ⟨e false, fun w => (e true w).trans ?_⟩
        by_cases h1 : r.kind = 1
        · rw [sem_1 h1, sem_1 h1, List.reverse_eq_nil_iff]
        · by_cases h2 : r.kind = 2
          · rw [sem_2 h2, sem_2 h2]
            refine exists_congr fun a => and_congr_left fun _ => ?_
            constructor
            · rintro rfl; rfl
            · intro q
              have := congrArg List.reverse q
              rwa [List.reverse_reverse] at this
          · exact ⟨fun q => absurd q (sem_0 (by omega) w), fun q => absurd q (sem_0 (by omega) _)⟩
theorem mtR_Dv (r : Rx) (w : List Int) (k : Nat) : mtR r w k = Dv (simR r) (w.take k) := rfl
theorem match_Dv (r : Rx) (w : List Int) : matchR r w = accR (Dv (simR r) w) := by unfold matchR; rw [mtR_Dv, List.take_length]
theorem match_sem {r : Rx} (hv : validR r = true) (w : List Int) : matchR r w = true ↔ sem r w := by
  rw [match_Dv, acc_Dv (simR_nf r)]
  unfold simR; rw [if_pos hv]; exact (sem_build r hv).1 w
theorem match_rev {r : Rx} (hv : validR r = true) (w : List Int) : matchR (revR r) w.reverse = matchR r w := by
  rw [Bool.eq_iff_iff, match_sem hv, match_sem (nf_valid (revR_nf r))]
  unfold revR; rw [if_pos hv, (sem_build r hv).2, List.reverse_reverse]
theorem match_sim {r : Rx} (w : List Int) : matchR (simR r) w = matchR r w := by
  rw [match_Dv, match_Dv, simR_id (simR_nf r)]
theorem acc_match {r : Rx} (hv : validR r = true) : matchR r [] = accR r := by
  rw [Bool.eq_iff_iff, match_sem hv, acc_sem]
end Go.Wb

namespace Go.Wb
set_option linter.unusedVariables false
open Go.Am Go.Wc
theorem eq_same {p q : Bool} (h : p = q) : (p == q) = true := by rw [h]; exact beq_self_eq_true q
theorem ne_same {p q : Bool} (h : p = q) : (!(p == q)) = false := by rw [eq_same h]; rfl
theorem wordP_len (l : List Int) (most long : Int) : (wordP l most long).length ≤ long.toNat := by
  unfold wordP; rw [List.length_map, List.length_take]; exact Nat.min_le_left _ _
structure Sm (x : Rx) : Prop where
  valid : validR x = true
  size : x.size ≤ 49
  top : Top 16 (simR x)
  ssize : (simR x).size ≤ 49
theorem sm_shaped (l : List Int) : Sm (shapedP l 3) := by
  have hm : (0 : Int) < 3 ∧ (3 : Int) ≤ 64 := by decide
  obtain ⟨h1, h2⟩ := shaped_good l hm
  have e : simR (shapedP l 3) = buildR false (shapedP l 3) := by unfold simR; rw [if_pos h1]
  have h3 := size_build' false _ h1
  exact ⟨h1, h2, by rw [e]; exact shaped_top false l hm, by rw [e]; omega⟩
theorem sm_sim {x : Rx} (h : Sm x) : Sm (simR x) := ⟨nf_valid (simR_nf x), h.ssize, by rw [simR_id (simR_nf x)]; exact h.top, by rw [simR_id (simR_nf x)]; exact h.ssize⟩
theorem sm_rev (l : List Int) : Sm (revR (shapedP l 3)) := by
  have hm : (0 : Int) < 3 ∧ (3 : Int) ≤ 64 := by decide
  obtain ⟨h1, h2⟩ := shaped_good l hm
  have e : revR (shapedP l 3) = buildR true (shapedP l 3) := by unfold revR; rw [if_pos h1]
  have h3 := size_build' true _ h1
  have h4 := simR_id (revR_nf (shapedP l 3))
  exact ⟨nf_valid (revR_nf _), by rw [e]; omega, by rw [h4, e]; exact shaped_top true l hm, by rw [h4, e]; omega⟩
theorem sm_dv {x : Rx} (h : Sm x) {v : List Int} (hv : v.length ≤ 9) : dSz (Dv (simR x) v) ≤ 131245516304 ∧ (Dv (simR x) v).size ≤ 131245516304 := dv9 (simR_nf x) h.top h.ssize hv
theorem sm_match {x : Rx} (h : Sm x) {w : List Int} (hw : w.length ≤ 9) : ∀ k, k ≤ w.length → (mtR x w k).size ≤ 549755813888 ∧ dSz (mtR x w k) ≤ 549755813888 := fun k hk => by
  have := sm_dv h (v := w.take k) (by rw [List.length_take]; omega)
  rw [mtR_Dv]; omega
def lgR (x : Rx) (u : List Int) (k : Nat) : Rx := if k = 0 then x else Dv (simR x) (u.take k)
theorem lgR_sim (x : Rx) (u : List Int) (k : Nat) : simR (lgR x u k) = Dv (simR x) (u.take k) := by
  unfold lgR; split
  · next h => rw [h]; rfl
  · exact simR_id (Dv_nf (simR_nf x) _)
theorem lgR_succ {x : Rx} {u : List Int} {k : Nat} (h : k < u.length) : dR (u.getD k default) (simR (lgR x u k)) = lgR x u (k + 1) := by
  rw [lgR_sim, ← Dv_snoc, ← take_succ' h]; rfl
theorem lg_bd {x : Rx} {u : List Int} (h : Sm x) (hu : u.length ≤ 9) (k : Nat) : (lgR x u k).size ≤ 137438953472 ∧ dSz (simR (lgR x u k)) ≤ 549755813888 := by
  have h1 := sm_dv h (v := u.take k) (by rw [List.length_take]; omega)
  rw [lgR_sim]
  refine ⟨?_, by omega⟩
  unfold lgR; split
  · have := h.size; omega
  · omega
theorem Dv_app (x : Rx) (u v : List Int) : Dv (Dv x u) v = Dv x (u ++ v) := by unfold Dv; rw [List.foldl_append]
theorem lg_mt {x : Rx} {u : List Int} (h : Sm x) (hu : u.length ≤ 9) {k : Nat} (hk : k < u.length) : ∀ j, j ≤ (u.drop ((k : Int) + 1).toNat).length →
    (mtR (dR (u.getD k default) (simR (lgR x u k))) (u.drop ((k : Int) + 1).toNat) j).size ≤ 549755813888 ∧ dSz (mtR (dR (u.getD k default) (simR (lgR x u k))) (u.drop ((k : Int) + 1).toNat) j) ≤ 549755813888 := fun j hj => by
  rw [show ((k : Int) + 1).toNat = k + 1 by omega] at hj ⊢
  rw [lgR_succ hk, mtR_Dv, lgR_sim, Dv_app]
  rw [List.length_drop] at hj
  have := sm_dv h (v := u.take (k + 1) ++ (u.drop (k + 1)).take j) (by rw [List.length_append, List.length_take, List.length_take, List.length_drop]; omega)
  omega
theorem lg_is {x : Rx} {u : List Int} {k : Nat} (hk : k < u.length) : matchR (dR (u.getD k default) (simR (lgR x u k))) (u.drop ((k : Int) + 1).toNat) = matchR x u := by
  rw [show ((k : Int) + 1).toNat = k + 1 by omega, lgR_succ hk, match_Dv, lgR_sim, Dv_app, List.take_append_drop, match_Dv]
theorem lg_size {x : Rx} {u : List Int} (h : Sm x) (hu : u.length ≤ 9) {k : Nat} (hk : k < u.length) : (dR (u.getD k default) (simR (lgR x u k))).size ≤ 137438953472 := by
  rw [lgR_succ hk]; exact (lg_bd h hu _).1
theorem sm_empty {x : Rx} (h : Sm x) : (validR x && accR x) = matchR x [] := by rw [h.valid, Bool.true_and, acc_match h.valid]
theorem lg_end {x : Rx} {u : List Int} (h : Sm x) {k : Nat} (hk : ¬ k < u.length) (hk2 : k ≤ u.length) : (validR (lgR x u k) && accR (lgR x u k)) = matchR x u := by
  have e : k = u.length := by omega
  by_cases h0 : k = 0
  · have hu : u = [] := List.eq_nil_of_length_eq_zero (by omega)
    rw [h0, hu]
    show (validR x && accR x) = _
    exact sm_empty h
  · unfold lgR
    rw [if_neg h0, nf_valid (Dv_nf (simR_nf x) _), Bool.true_and, e, List.take_length, match_Dv]
theorem lg_rev {x : Rx} (h : Sm x) (u : List Int) : matchR (revR x) u.reverse = matchR x u := match_rev h.valid u
end Go.Wb

