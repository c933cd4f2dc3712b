/-
  Calls whose arguments are taken as they stand (a nil slice as nil).
-/
import Derived.Test.YtjimlkpfmbachaaGreatJ12
import Derived.Test.YtjimlkpfmbachaaGreatJ13
set_option linter.unusedVariables false
set_option linter.unusedSectionVars false
set_option linter.unusedSimpArgs false
namespace Go.Wd
set_option linter.unusedVariables false
open Go.Am
theorem el_get {α : Type} [Inhabited α] {l : List α} {i : Nat} (h : i < l.length) : l.getD i default = l[i] := by rw [List.getD_eq_getElem?_getD, List.getElem?_eq_getElem h]; rfl
theorem el_mem {α : Type} [Inhabited α] {l : List α} {i : Nat} (h : i < l.length) : l.getD i default ∈ l := by rw [el_get h]; exact List.getElem_mem h
/-! ### validity -/
def pOut (n : Nat) (x : Int) : Bool := decide (x < 0) || decide ((n : Int) ≤ x)
abbrev headD (d : Dfa) : Prop := (1 ≤ d.size ∧ d.size ≤ 64) ∧ (1 ≤ d.next.length ∧ d.next.length ≤ 2048) ∧ d.fin.length = d.next.length
theorem okRow_any {n : Nat} {size : Int} {r : List Int} (h1 : (r.length : Int) = size) (h : r.any (pOut n) = false) : okRow n size r := by
  refine ⟨h1, fun x hx => ?_⟩
  have := List.any_eq_false.1 h x hx
  unfold pOut at this
  simp only [Bool.or_eq_true, decide_eq_true_eq, not_or] at this
  omega
theorem okRow_no {n : Nat} {size : Int} {r : List Int} (h : r.any (pOut n) = true) : ¬ okRow n size r := fun q => by
  obtain ⟨x, hx, hp⟩ := List.any_eq_true.1 h
  have := q.2 x hx
  unfold pOut at hp
  simp only [Bool.or_eq_true, decide_eq_true_eq] at hp
  omega
theorem vd_head {d : Dfa} (h : ¬ headD d) : validD d = false := decide_eq_false fun q => h q.1
theorem vd_row {d : Dfa} {i : Nat} (hi : i < d.next.length) (h : ¬ okRow d.next.length d.size (d.next.getD i default)) : validD d = false := decide_eq_false fun q => h (q.2 _ (el_mem hi))
theorem vd_len {d : Dfa} {i : Nat} (hi : i < d.next.length) (h : ¬ ((d.next.getD i default).length : Int) = d.size) : validD d = false := vd_row hi fun q => h q.1
theorem vd_any {d : Dfa} {i : Nat} (hi : i < d.next.length) (h : (d.next.getD i default).any (pOut d.next.length) = true) : validD d = false := vd_row hi (okRow_no h)
theorem vd_all {d : Dfa} (h0 : headD d) (h : ∀ i, i < d.next.length → okRow d.next.length d.size (d.next.getD i default)) : validD d = true := decide_eq_true ⟨h0, fun r hr => by
  obtain ⟨i, hi, rfl⟩ := List.getElem_of_mem hr
  have := h i hi
  rwa [el_get hi] at this⟩
theorem vd_at {d : Dfa} {i k : Nat} (hi : i < d.next.length) (hk : k < (d.next.getD i default).length) (h : (d.next.getD i default).getD k default < 0 ∨ (d.next.length : Int) ≤ (d.next.getD i default).getD k default) : validD d = false :=
  vd_row hi fun q => by have := q.2 _ (el_mem hk); omega
theorem okRow_of {n : Nat} {size : Int} {r : List Int} (h1 : (r.length : Int) = size) (h : ∀ k, k < r.length → 0 ≤ r.getD k default ∧ r.getD k default < n) : okRow n size r := ⟨h1, fun x hx => by
  obtain ⟨i, hi, rfl⟩ := List.getElem_of_mem hx
  have := h i hi
  rwa [el_get hi] at this⟩
theorem valid_ok {d : Dfa} (h : validD d = true) : okD d := of_decide_eq_true h
theorem ok_valid {d : Dfa} (h : okD d) : validD d = true := decide_eq_true h
theorem okD.row {d : Dfa} (h : okD d) {i : Nat} (hi : i < d.next.length) : okRow d.next.length d.size (d.next.getD i default) := h.2 _ (el_mem hi)
theorem okD.cell {d : Dfa} (h : okD d) {i k : Nat} (hi : i < d.next.length) (hk : (k : Int) < d.size) : 0 ≤ (d.next.getD i default).getD k default ∧ (d.next.getD i default).getD k default < d.next.length := by
  have h1 := h.row hi
  exact h1.2 _ (el_mem (by have := h1.1; omega))
theorem okD.cellN {d : Dfa} (h : okD d) {i k : Nat} (hi : i < d.next.length) (hk : (k : Int) < d.size) : (d.next.getD i default).getD k default = (d.stp i k : Int) := by
  have := h.cell hi hk
  unfold Dfa.stp
  omega
/-! ### keys -/
abbrev natI (n : Nat) : AV := int (n : Int)
abbrev nats (l : List Nat) : AV := .sl (l.map natI)
def kbI (n : Int) : List Int := [n % 256, (n / 256) % 256, (n / 65536) % 256]
def kbs (l : List Nat) : List Int := l.flatMap fun n : Nat => kbI (n : Int)
def kbS (s : Sig) : List Int := (kbI s.1 ++ if s.2.1 = true then [1] else []) ++ kbs s.2.2
def strI (l : List Int) : Value := .string ⟨(l.map fun n => UInt8.ofNat n.toNat).toArray⟩
theorem kb_eq (n : Int) : [IntKind.u8.wrap n, IntKind.u8.wrap (n.fdiv (2 ^ (min (8 : Int).toNat IntKind.i64.bits))), IntKind.u8.wrap (n.fdiv (2 ^ (min (16 : Int).toNat IntKind.i64.bits)))] = kbI n := by
  have e1 : n.fdiv (2 ^ (min (8 : Int).toNat IntKind.i64.bits)) = n / 256 := by
    show n.fdiv 256 = _
    rw [Int.fdiv_eq_ediv_of_nonneg _ (by omega)]
  have e2 : n.fdiv (2 ^ (min (16 : Int).toNat IntKind.i64.bits)) = n / 65536 := by
    show n.fdiv 65536 = _
    rw [Int.fdiv_eq_ediv_of_nonneg _ (by omega)]
  rw [e1, e2]; rfl
theorem kbI_inj {a b : Nat} (ha : a < 16777216) (hb : b < 16777216) (h : kbI a = kbI b) : a = b := by
  unfold kbI at h
  injection h with h1 h
  injection h with h2 h
  injection h with h3 h
  omega
theorem kbI_len (n : Int) : (kbI n).length = 3 := rfl
theorem kbI_byte (n : Int) : ∀ x ∈ kbI n, 0 ≤ x ∧ x < 256 := fun x hx => by
  unfold kbI at hx
  simp only [List.mem_cons, List.not_mem_nil, or_false] at hx
  omega
theorem kbs_snoc (l : List Nat) (n : Nat) : kbs (l ++ [n]) = kbs l ++ kbI n := by unfold kbs; rw [List.flatMap_append]; simp
theorem kbs_len : ∀ l : List Nat, (kbs l).length = 3 * l.length
  | [] => rfl
  | n :: l => by
    have := kbs_len l
    unfold kbs at this ⊢
    rw [List.flatMap_cons, List.length_append, kbI_len, this, List.length_cons]; omega
theorem kbs_inj : ∀ {l m : List Nat}, l.length = m.length → (∀ x ∈ l, x < 16777216) → (∀ x ∈ m, x < 16777216) → kbs l = kbs m → l = m
  | [], [], _, _, _, _ => rfl
  | [], _ :: _, h, _, _, _ => by cases h
  | _ :: _, [], h, _, _, _ => by cases h
  | a :: l, b :: m, h, ha, hb, e => by
    have e' : kbI a ++ kbs l = kbI b ++ kbs m := e
    obtain ⟨e1, e2⟩ := List.append_inj e' (by rw [kbI_len, kbI_len])
    rw [kbI_inj (ha a List.mem_cons_self) (hb b List.mem_cons_self) e1, kbs_inj (by simpa using h) (fun x hx => ha x (List.mem_cons_of_mem _ hx)) (fun x hx => hb x (List.mem_cons_of_mem _ hx)) e2]
theorem kbs_byte (l : List Nat) : ∀ x ∈ kbs l, 0 ≤ x ∧ x < 256 := fun x hx => by
  obtain ⟨n, hn, hx⟩ := List.mem_flatMap.1 hx
  exact kbI_byte n x hx
theorem kbS_byte (s : Sig) : ∀ x ∈ kbS s, 0 ≤ x ∧ x < 256 := fun x hx => by
  unfold kbS at hx
  rcases List.mem_append.1 hx with hx | hx
  · rcases List.mem_append.1 hx with hx | hx
    · exact kbI_byte _ x hx
    · split at hx
      · rw [List.mem_singleton.1 hx]; omega
      · cases hx
  · exact kbs_byte _ x hx
theorem kbS_inj {s t : Sig} (hl : s.2.2.length = t.2.2.length) (h1 : s.1 < 16777216) (h2 : t.1 < 16777216) (hs : ∀ x ∈ s.2.2, x < 16777216) (ht : ∀ x ∈ t.2.2, x < 16777216) (h : kbS s = kbS t) : s = t := by
  obtain ⟨a, b, l⟩ := s
  obtain ⟨a', b', l'⟩ := t
  simp only at hl h1 h2 hs ht
  have hlen := congrArg List.length h
  unfold kbS at h hlen
  simp only [List.length_append, kbI_len, kbs_len] at hlen
  have hb : b = b' := by cases b <;> cases b' <;> simp at hlen ⊢ <;> omega
  subst hb
  obtain ⟨e1, e2⟩ := List.append_inj h (by simp [kbI_len])
  obtain ⟨e3, _⟩ := List.append_inj e1 (by rw [kbI_len, kbI_len])
  rw [kbI_inj h1 h2 e3, kbs_inj hl hs ht e2]
theorem strI_inj : ∀ {l m : List Int}, (∀ x ∈ l, 0 ≤ x ∧ x < 256) → (∀ x ∈ m, 0 ≤ x ∧ x < 256) → strI l = strI m → l = m := fun {l m} hl hm h => by
  unfold strI at h
  injection h with h
  injection h with h
  have h' : l.map (fun n => UInt8.ofNat n.toNat) = m.map (fun n => UInt8.ofNat n.toNat) := congrArg Array.toList h
  clear h
  have h := h'
  clear h'
  revert m
  induction l with
  | nil => intro m hm h; cases m with
    | nil => rfl
    | cons b m => cases h
  | cons a l ih => intro m hm h; cases m with
    | nil => cases h
    | cons b m =>
      injection h with h1 h2
      have ha := hl a List.mem_cons_self
      have hb := hm b List.mem_cons_self
      have : a = b := by
        have := congrArg UInt8.toNat h1
        rw [UInt8.toNat_ofNat', UInt8.toNat_ofNat'] at this
        rw [Nat.mod_eq_of_lt (by omega), Nat.mod_eq_of_lt (by omega)] at this
        omega
      subst this
      rw [ih (fun x hx => hl x (List.mem_cons_of_mem _ hx)) (fun x hx => hm x (List.mem_cons_of_mem _ hx)) h2]
/-! ### classes -/
section
variable {σ : Type} [DecidableEq σ]
theorem foldl_pre : ∀ (l m : List σ), m <+: l.foldl addK m
  | [], m => List.prefix_refl _
  | x :: l, m => (addK_pre m x).trans (foldl_pre l _)
theorem firsts_pre {l m : List σ} (h : l <+: m) : firsts l <+: firsts m := by
  obtain ⟨r, rfl⟩ := h
  unfold firsts
  rw [List.foldl_append]
  exact foldl_pre r _
theorem idx_snoc {l : List σ} {x : σ} (h : x ∉ l) : idx (l ++ [x]) x = l.length := by
  unfold idx; rw [List.idxOf_append, if_neg h, List.idxOf_cons_self]; omega
theorem firsts_len (l : List σ) : (firsts l).length ≤ l.length := by
  have := nodup_len (firsts_nodup l) (fun x hx => firsts_mem.1 hx)
  exact this
end
section
variable {d : Dfa}
def fs (d : Dfa) (cl : List Nat) (i : Nat) : List Sig := firsts ((sigs d cl).take i)
theorem sigs_len (cl : List Nat) : (sigs d cl).length = d.n := by unfold sigs; simp
theorem sigs_get (cl : List Nat) {i : Nat} (hi : i < d.n) : (sigs d cl)[i]? = some (sig d cl i) := by
  unfold sigs; rw [List.getElem?_map, List.getElem?_range hi]; rfl
theorem fs_succ (cl : List Nat) {i : Nat} (hi : i < d.n) : fs d cl (i + 1) = addK (fs d cl i) (sig d cl i) := by
  unfold fs
  rw [List.take_add_one, sigs_get cl hi, ← firsts_snoc]; rfl
theorem fs_all (cl : List Nat) : fs d cl d.n = firsts (sigs d cl) := by
  unfold fs; rw [List.take_of_length_le (by rw [sigs_len]; exact Nat.le_refl _)]
theorem fs_len (cl : List Nat) (i : Nat) : (fs d cl i).length ≤ i := by
  have := firsts_len ((sigs d cl).take i)
  rw [List.length_take] at this
  unfold fs; omega
theorem fs_sig (cl : List Nat) {i : Nat} {s : Sig} (h : s ∈ fs d cl i) : ∃ j, j < d.n ∧ s = sig d cl j := by
  have := List.mem_of_mem_take (firsts_mem.1 h)
  obtain ⟨j, hj, e⟩ := List.mem_map.1 this
  exact ⟨j, List.mem_range.1 hj, e.symm⟩
theorem step_idx (cl : List Nat) {i : Nat} (hi : i < d.n) : (clsStep d cl).getD i 0 = idx (fs d cl (i + 1)) (sig d cl i) := by
  rw [step_get cl hi]
  refine idx_pre (firsts_pre (List.take_prefix _ _)) (firsts_mem.2 ?_)
  refine List.mem_of_getElem? (i := i) ?_
  rw [List.getElem?_take, if_pos (by omega), sigs_get cl hi]
theorem step_old (cl : List Nat) {i : Nat} (hi : i < d.n) (h : sig d cl i ∈ fs d cl i) : (clsStep d cl).getD i 0 = idx (fs d cl i) (sig d cl i) := by
  rw [step_idx cl hi, fs_succ cl hi]
  unfold addK; rw [if_pos h]
theorem step_new (cl : List Nat) {i : Nat} (hi : i < d.n) (h : sig d cl i ∉ fs d cl i) : (clsStep d cl).getD i 0 = (fs d cl i).length := by
  rw [step_idx cl hi, fs_succ cl hi]
  unfold addK; rw [if_neg h]; exact idx_snoc h
def nx (d : Dfa) (cl : List Nat) (i : Nat) : List Nat := (clsStep d cl).take i ++ List.replicate (d.n - i) 0
theorem nx_zero (cl : List Nat) : nx d cl 0 = List.replicate d.n 0 := by unfold nx; simp
theorem nx_all (cl : List Nat) : nx d cl d.n = clsStep d cl := by unfold nx; rw [Nat.sub_self, List.take_of_length_le (by rw [step_len]; exact Nat.le_refl _)]; simp
theorem nx_len (cl : List Nat) {i : Nat} (hi : i ≤ d.n) : (nx d cl i).length = d.n := by
  unfold nx; rw [List.length_append, List.length_take, step_len, List.length_replicate]; omega
theorem nx_set (cl : List Nat) {i v : Nat} (hi : i < d.n) (hv : (clsStep d cl).getD i 0 = v) : (nx d cl i).set i v = nx d cl (i + 1) := by
  have hl := step_len (d := d) cl
  unfold nx
  rw [List.set_append_right _ _ (by rw [List.length_take, hl]; omega), List.length_take, hl, Nat.min_eq_left (by omega), Nat.sub_self,
    show d.n - i = (d.n - (i + 1)) + 1 by omega, List.replicate_succ, List.set_cons_zero, List.take_add_one, List.getElem?_eq_getElem (by omega)]
  rw [List.getD_eq_getElem?_getD, List.getElem?_eq_getElem (by omega)] at hv
  simp only [Option.getD_some] at hv
  rw [hv]; simp
theorem step_lt (cl : List Nat) : ∀ x ∈ clsStep d cl, x < d.n := fun x hx => by
  obtain ⟨q, hq, e⟩ := List.getElem_of_mem hx
  rw [step_len] at hq
  have h1 := step_get cl hq
  rw [List.getD_eq_getElem?_getD, List.getElem?_eq_getElem (by rw [step_len]; exact hq)] at h1
  simp only [Option.getD_some] at h1
  rw [← e, h1]
  have h2 := idx_lt (firsts_mem.2 (sig_mem (d := d) cl hq))
  have h3 := cnt_le (d := d) cl
  unfold cnt at h3
  omega
def rw' (d : Dfa) (cl : List Nat) (q s : Nat) : List Nat := (List.range s).map fun s => cl.getD (d.stp q s) 0
theorem rw_succ (cl : List Nat) (q s : Nat) : rw' d cl q (s + 1) = rw' d cl q s ++ [cl.getD (d.stp q s) 0] := by unfold rw'; rw [List.range_succ, List.map_append]; rfl
theorem rw_len (cl : List Nat) (q s : Nat) : (rw' d cl q s).length = s := by unfold rw'; simp
theorem getD_lt {cl : List Nat} {B : Nat} (h : ∀ x ∈ cl, x < B) (hB : 0 < B) (q : Nat) : cl.getD q 0 < B := by
  rw [List.getD_eq_getElem?_getD]
  cases hq : cl[q]? with
  | none => exact hB
  | some x => exact h x (List.mem_of_getElem? hq)
theorem sig_inj {cl : List Nat} (h : ∀ x ∈ cl, x < 16777216) {i j : Nat} (e : strI (kbS (sig d cl i)) = strI (kbS (sig d cl j))) : sig d cl i = sig d cl j := by
  refine kbS_inj (by simp [sig]) (getD_lt h (by omega) _) (getD_lt h (by omega) _) ?_ ?_ (strI_inj (kbS_byte _) (kbS_byte _) e) <;>
  · intro x hx
    obtain ⟨s, _, rfl⟩ := List.mem_map.1 hx
    exact getD_lt h (by omega) _
theorem sig_injF {cl : List Nat} (h : ∀ x ∈ cl, x < 16777216) {i j : Nat} : ∀ b ∈ fs d cl i, strI (kbS b) = strI (kbS (sig d cl j)) → b = sig d cl j := fun b hb e => by
  obtain ⟨q, _, rfl⟩ := fs_sig cl hb
  exact sig_inj h e
abbrev ksC (l : List Sig) : List Value := l.map fun s => strI (kbS s)
abbrev vsC (n : Nat) : List AV := (List.range n).map natI
theorem vs_snoc (n : Nat) : vsC n ++ [natI n] = vsC (n + 1) := by unfold vsC; rw [List.range_succ, List.map_append]; rfl
theorem cls_fuel {c f : Nat} {cl : List Nat} (h : clsF d = clsIt d f c cl) (hf : d.n < f + c) (hc : c ≤ d.n) (hne : cnt d cl ≠ c) : ∃ f', f = f' + 1 ∧ clsF d = clsIt d f' (cnt d cl) (clsStep d cl) := by
  cases f with
  | zero => omega
  | succ f => exact ⟨f, rfl, by rw [h, clsIt, if_neg hne]⟩
theorem cls_end {c f : Nat} {cl : List Nat} (h : clsF d = clsIt d f c cl) (hf : d.n < f + c) (hc : c ≤ d.n) (he : cnt d cl = c) : clsStep d cl = clsF d := by
  cases f with
  | zero => omega
  | succ f => rw [h, clsIt, if_pos he]
theorem cls_start (hd : okD d) : Cls d 0 (List.replicate d.n 0) := ⟨List.length_replicate, fun q p hq hp _ => by
  rw [List.getD_eq_getElem?_getD, List.getD_eq_getElem?_getD, List.getElem?_replicate, List.getElem?_replicate, if_pos hq, if_pos hp], .inl rfl⟩
def bK (d : Dfa) (cl : List Nat) (i s : Nat) : List Int := (kbI (cl.getD i 0 : Nat) ++ if d.fn i = true then [1] else []) ++ kbs (rw' d cl i s)
theorem bK_len (cl : List Nat) (i s : Nat) : (bK d cl i s).length ≤ 4 + 3 * s := by
  unfold bK
  rw [List.length_append, List.length_append, kbI_len, kbs_len, rw_len]
  split <;> simp <;> omega
theorem bK_succ (cl : List Nat) (i s : Nat) : bK d cl i (s + 1) = bK d cl i s ++ kbI (cl.getD (d.stp i s) 0 : Nat) := by
  unfold bK; rw [rw_succ, kbs_snoc]; simp only [List.append_assoc]
theorem bK_t {cl : List Nat} {i : Nat} (h : d.fn i = true) : bK d cl i 0 = kbI (cl.getD i 0 : Nat) ++ [1] := by unfold bK; rw [if_pos h]; simp [rw', kbs]
theorem bK_f {cl : List Nat} {i : Nat} (h : d.fn i = false) : bK d cl i 0 = kbI (cl.getD i 0 : Nat) := by unfold bK; rw [if_neg (by rw [h]; decide)]; simp [rw', kbs]
theorem look_c {cl : List Nat} (h : ∀ x ∈ cl, x < 16777216) {i : Nat} : mlook (int 0) (ksC (fs d cl i)) (vsC (fs d cl i).length) (strI (bK d cl i d.k)) = natI (if sig d cl i ∈ fs d cl i then idx (fs d cl i) (sig d cl i) else 0) := by
  show mlook (int 0) ((fs d cl i).map fun s => strI (kbS s)) (vsC (fs d cl i).length) (strI (kbS (sig d cl i))) = _
  by_cases q : sig d cl i ∈ fs d cl i
  · rw [if_pos q, mlook_map (g := fun s => strI (kbS s)) (sig_injF h) q]; rfl
  · rw [if_neg q, mlook_not (g := fun s => strI (kbS s)) (sig_injF h) q]; rfl
theorem has_c {cl : List Nat} (h : ∀ x ∈ cl, x < 16777216) {i : Nat} : mhas (ksC (fs d cl i)) (strI (bK d cl i d.k)) = decide (sig d cl i ∈ fs d cl i) :=
  (mhas_map (g := fun s => strI (kbS s)) (sig_injF h)).trans (decide_eq_decide.2 Iff.rfl)
theorem put_kc {cl : List Nat} (h : ∀ x ∈ cl, x < 16777216) {i : Nat} (hi : i < d.n) (q : sig d cl i ∉ fs d cl i) : putK (ksC (fs d cl i)) (strI (bK d cl i d.k)) = ksC (fs d cl (i + 1)) := by
  rw [fs_succ cl hi]; unfold addK; rw [if_neg q]
  exact putK_map (g := fun s => strI (kbS s)) (sig_injF h) q
theorem put_vc {cl : List Nat} (h : ∀ x ∈ cl, x < 16777216) {i : Nat} (hi : i < d.n) (q : sig d cl i ∉ fs d cl i) : putV (ksC (fs d cl i)) (vsC (fs d cl i).length) (strI (bK d cl i d.k)) (natI (fs d cl i).length) = vsC (fs d cl (i + 1)).length := by
  rw [fs_succ cl hi]; unfold addK; rw [if_neg q]
  show putV ((fs d cl i).map fun s => strI (kbS s)) (vsC (fs d cl i).length) (strI (kbS (sig d cl i))) (natI (fs d cl i).length) = _
  rw [putV_map (g := fun s => strI (kbS s)) (sig_injF h) q, vs_snoc, List.length_append]; rfl
theorem fs_old {cl : List Nat} {i : Nat} (hi : i < d.n) (q : sig d cl i ∈ fs d cl i) : fs d cl (i + 1) = fs d cl i := by
  rw [fs_succ cl hi]; unfold addK; rw [if_pos q]
theorem nx_setI (cl : List Nat) {i v : Nat} (hi : i < d.n) (hv : (clsStep d cl).getD i 0 = v) : ((nx d cl i).map natI).set i (natI v) = (nx d cl (i + 1)).map natI := by
  rw [← nx_set cl hi hv, List.map_set]
theorem rep_map (n : Nat) : List.replicate n (AV.sc (.int .i64 0)) = (List.replicate n 0).map natI := by rw [List.map_replicate]; rfl
/-! ### the reference's classes -/
def reps (d : Dfa) (cl : List Nat) : Nat → List Nat
  | 0 => []
  | i + 1 => if sig d cl i ∈ fs d cl i then reps d cl i else reps d cl i ++ [i]
theorem reps_map (cl : List Nat) : ∀ i, i ≤ d.n → (reps d cl i).map (sig d cl) = fs d cl i
  | 0, _ => rfl
  | i + 1, hi => by
    have ih := reps_map cl i (by omega)
    rw [fs_succ cl (by omega)]
    unfold reps addK
    by_cases q : sig d cl i ∈ fs d cl i
    · rw [if_pos q, if_pos q]; exact ih
    · rw [if_neg q, if_neg q, List.map_append, ih]; rfl
theorem reps_len (cl : List Nat) {i : Nat} (hi : i ≤ d.n) : (reps d cl i).length = (fs d cl i).length := by rw [← reps_map cl i hi, List.length_map]
theorem reps_lt (cl : List Nat) : ∀ i, ∀ x ∈ reps d cl i, x < i
  | 0, x, h => by cases h
  | i + 1, x, h => by
    unfold reps at h
    split at h
    · have := reps_lt cl i x h; omega
    · rcases List.mem_append.1 h with h | h
      · have := reps_lt cl i x h; omega
      · rw [List.mem_singleton.1 h]; omega
theorem reps_get (cl : List Nat) {i k : Nat} (hi : i ≤ d.n) (hk : k < (reps d cl i).length) : (fs d cl i)[k]? = some (sig d cl ((reps d cl i).getD k default)) := by
  rw [← reps_map cl i hi, List.getElem?_map, List.getElem?_eq_getElem hk, el_get hk]; rfl
theorem idx_hit {σ : Type} [DecidableEq σ] : ∀ {l : List σ} {x : σ} {k : Nat}, l[k]? = some x → (∀ j y, j < k → l[j]? = some y → y ≠ x) → idx l x = k
  | [], x, k, h, _ => by simp at h
  | y :: l, x, 0, h, _ => by
    simp only [List.getElem?_cons_zero, Option.some.injEq] at h
    subst h; unfold idx; exact List.idxOf_cons_self
  | y :: l, x, k + 1, h, hn => by
    have h0 := hn 0 y (by omega) rfl
    have ih := idx_hit (l := l) (x := x) (k := k) (by simpa using h) fun j z hj hz => hn (j + 1) z (by omega) (by simpa using hz)
    unfold idx at ih ⊢
    rw [List.idxOf_cons, beq_eq_false_iff_ne.2 h0]
    show List.idxOf x l + 1 = k + 1
    rw [ih]
theorem idx_miss {σ : Type} [DecidableEq σ] {l : List σ} {x : σ} (h : x ∉ l) : idx l x = l.length := by
  unfold idx; exact List.idxOf_eq_length h
theorem alike_hit {cl : List Nat} {i k : Nat} (hi : i < d.n) (hk : k < (reps d cl i).length) (hn : ∀ j, j < k → sig d cl ((reps d cl i).getD j default) ≠ sig d cl i) (h : sig d cl ((reps d cl i).getD k default) = sig d cl i) : idx (fs d cl i) (sig d cl i) = k := by
  refine idx_hit (by rw [reps_get cl (by omega) hk, h]) fun j y hj hy => ?_
  rw [reps_get cl (by omega) (by omega)] at hy
  injection hy with hy
  rw [← hy]; exact hn j hj
theorem alike_miss {cl : List Nat} {i k : Nat} (hi : i < d.n) (hk : k = (reps d cl i).length) (hn : ∀ j, j < k → sig d cl ((reps d cl i).getD j default) ≠ sig d cl i) : idx (fs d cl i) (sig d cl i) = k := by
  rw [idx_miss, ← reps_len cl (by omega), hk]
  intro q
  obtain ⟨j, hj, e⟩ := List.getElem_of_mem q
  have hj' : j < (reps d cl i).length := by rw [reps_len cl (by omega)]; exact hj
  have := reps_get cl (by omega) hj'
  rw [List.getElem?_eq_getElem hj, e] at this
  injection this with this
  exact hn j (by omega) this.symm
theorem idx_isnew {cl : List Nat} {i k : Nat} (hi : i < d.n) (h : k = idx (fs d cl i) (sig d cl i)) (hk : k = (reps d cl i).length) : reps d cl (i + 1) = reps d cl i ++ [i] ∧ (clsStep d cl).getD i 0 = k := by
  have q : sig d cl i ∉ fs d cl i := fun q => by
    have := idx_lt q
    rw [reps_len cl (by omega)] at hk; omega
  constructor
  · rw [reps, if_neg q]
  · rw [step_new cl hi q, hk, reps_len cl (by omega)]
theorem idx_isold {cl : List Nat} {i k : Nat} (hi : i < d.n) (h : k = idx (fs d cl i) (sig d cl i)) (hk : ¬ k = (reps d cl i).length) : reps d cl (i + 1) = reps d cl i ∧ (clsStep d cl).getD i 0 = k := by
  have q : sig d cl i ∈ fs d cl i := Decidable.byContradiction fun q => hk (by rw [h, idx_miss q, reps_len cl (by omega)])
  constructor
  · rw [reps, if_pos q]
  · rw [step_old cl hi q, h]
theorem sig_eq {cl : List Nat} {a b : Nat} (h1 : cl.getD a 0 = cl.getD b 0) (h2 : d.fn a = d.fn b) (h3 : ∀ j, j < d.k → cl.getD (d.stp a j) 0 = cl.getD (d.stp b j) 0) : sig d cl a = sig d cl b := by
  unfold sig
  rw [h1, h2]
  congr 2
  exact List.map_congr_left fun s hs => h3 s (List.mem_range.1 hs)
theorem sig_ne1 {cl : List Nat} {a b : Nat} (h : ¬ cl.getD a 0 = cl.getD b 0) : ¬ sig d cl a = sig d cl b := fun e => h (congrArg (fun s : Sig => s.1) e)
theorem sig_ne2 {cl : List Nat} {a b : Nat} (h : ¬ d.fn a = d.fn b) : ¬ sig d cl a = sig d cl b := fun e => h (congrArg (fun s : Sig => s.2.1) e)
theorem sig_ne3 {cl : List Nat} {a b j : Nat} (hj : j < d.k) (h : ¬ cl.getD (d.stp a j) 0 = cl.getD (d.stp b j) 0) : ¬ sig d cl a = sig d cl b := fun e => by
  have e3 := congrArg (fun s : Sig => s.2.2[j]?) e
  simp only [sig, List.getElem?_map, List.getElem?_range hj, Option.map_some, Option.some.injEq] at e3
  exact h e3
theorem sigI_ne1 {cl : List Nat} {a b : Nat} (h : ¬ ((cl.getD a default : Nat) : Int) = (cl.getD b default : Nat)) : decide (sig d cl a = sig d cl b) = false := decide_eq_false (sig_ne1 fun e => h (congrArg Int.ofNat e))
theorem sigI_ne2 {cl : List Nat} {a b : Nat} (h : (d.fin.getD a default == d.fin.getD b default) = false) : decide (sig d cl a = sig d cl b) = false := decide_eq_false (sig_ne2 (beq_eq_false_iff_ne.1 h))
theorem sigI_ne3 {cl : List Nat} {a b j : Nat} (hj : j < d.k) (h : ¬ ((cl.getD ((d.next.getD a default).getD j default).toNat default : Nat) : Int) = (cl.getD ((d.next.getD b default).getD j default).toNat default : Nat)) : decide (sig d cl a = sig d cl b) = false :=
  decide_eq_false (sig_ne3 hj fun e => h (congrArg Int.ofNat e))
theorem sigI_eq {cl : List Nat} {a b : Nat} (h1 : ((cl.getD a default : Nat) : Int) = (cl.getD b default : Nat)) (h2 : (d.fin.getD a default == d.fin.getD b default) = true)
    (h3 : ∀ j, j < d.k → ((cl.getD ((d.next.getD a default).getD j default).toNat default : Nat) : Int) = (cl.getD ((d.next.getD b default).getD j default).toNat default : Nat)) : decide (sig d cl a = sig d cl b) = true :=
  decide_eq_true (sig_eq (Int.ofNat.inj h1) (beq_iff_eq.1 h2) fun j hj => Int.ofNat.inj (h3 j hj))
end
end Go.Wd

namespace Go.Am
open Go.RowKit
set_option linter.unusedVariables false
section
variable {P : Program} {w0 : Fr} {M0 : Nat → Prop}
variable {o : Oper} {x y z : Operand} {T T' e : TypeId} {k b : Nat} {c : Cls} {id off : Nat} {s : St} {t : Nat} {xs : List AV}
def viewX (ob : List (Nat × Ob)) : SV → Option AV
  | .v _ d => some d
  | d => (view ob d).map (·.2)
def viewAllX (ρ : Operand → Option SV) (ob : List (Nat × Ob)) : List Operand → Option (List AV)
  | [] => some []
  | x :: r => match (ρ x).bind (viewX ob), viewAllX ρ ob r with
    | some d, some ds => some (d :: ds)
    | _, _ => none
theorem viewX_ok {w : World} {E : Env} {ob : List (Nat × Ob)} {v : Value} {s : SV} {d : AV} (hw : WOk P w0 M0 E ob w) (h : SVok P M0 w E ob v s) (hv : viewX ob s = some d) : Rep w (fun _ => False) v d := by
  unfold viewX at hv
  split at hv
  · simp only [Option.some.injEq] at hv
    subst hv
    exact Rep.weak h (fun b hb => hb.elim)
  · rw [Option.map_eq_some_iff] at hv
    obtain ⟨⟨c, d'⟩, h1, rfl⟩ := hv
    exact (view_ok hw h h1).weak (fun b hb => hb.elim)
theorem viewAllX_ok {ρ : Operand → Option SV} {ob : List (Nat × Ob)} {E : Env} {w : World} {ev : Operand → Value} (hw : WOk P w0 M0 E ob w) (h : ∀ x e, ρ x = some e → SVok P M0 w E ob (ev x) e) :
    ∀ (xs : List Operand) (ds : List AV), viewAllX ρ ob xs = some ds → xs.length = ds.length ∧ ∀ (j : Nat) d, ds[j]? = some d → Rep w (fun _ => False) ((xs.map ev).getD j undef) d
  | [], ds, hd => by
    simp only [viewAllX, Option.some.injEq] at hd
    subst hd
    exact ⟨rfl, fun j d hd => by simp at hd⟩
  | x :: r, ds, hd => by
    unfold viewAllX at hd
    split at hd
    · rename_i d0 ds0 h1 h2
      simp only [Option.some.injEq] at hd
      subst hd
      have ih := viewAllX_ok hw h r ds0 h2
      refine ⟨by simp [ih.1], fun j d hd => ?_⟩
      cases j with
      | zero =>
        simp only [List.getElem?_cons_zero, Option.some.injEq] at hd
        subst hd
        rw [Option.bind_eq_some_iff] at h1
        obtain ⟨q, h3, h4⟩ := h1
        exact viewX_ok hw (h x q h3) h4
      | succ j => exact ih.2 j d (by simpa using hd)
    · cases hd
theorem args_repX {ρ : Operand → Option SV} {ob : List (Nat × Ob)} {E : Env} {w : World} {ev : Operand → Value} (hw : WOk P w0 M0 E ob w) (h : ∀ x e, ρ x = some e → SVok P M0 w E ob (ev x) e) {aa : List Operand} {ds caps : List AV} (ha : viewAllX ρ ob aa = some ds) {vs : List Value} {M : Nat → Prop} (hn : vs.length = caps.length)
    (hr : ∀ (j : Nat) d, caps[j]? = some d → Rep w M (vs.getD j undef) d) : (aa.map ev ++ vs).length = (ds ++ caps).length ∧ ∀ (j : Nat) d, (ds ++ caps)[j]? = some d → Rep w (fun _ => False) ((aa.map ev ++ vs).getD j undef) d := by
  have hv := viewAllX_ok hw h _ _ ha
  refine ⟨by simp [hv.1, hn], fun j d hd => ?_⟩
  rw [List.getD_eq_getElem?_getD]
  rcases Nat.lt_or_ge j ds.length with hlt | hge
  · rw [List.getElem?_append_left hlt] at hd
    have := hv.2 j d hd
    rw [List.getElem?_append_left (by simp [hv.1]; omega)]
    rwa [List.getD_eq_getElem?_getD] at this
  · rw [List.getElem?_append_right hge] at hd
    have := hr _ d hd
    rw [List.getElem?_append_right (by simp [hv.1]; omega)]
    simp only [List.length_map, hv.1]
    rw [List.getD_eq_getElem?_getD] at this
    exact this.weak (fun b hb => hb.elim)
theorem step_call_ownX {cx : Operand} {args : Array Operand} {ats : Array TypeId} {c : Cls} {f : FuncId} {caps ds : List AV}
    (ho : o.op = .call { callee := .value cx, args := args, argTypes := ats }) (hd : o.dst = some t) (hn : Nat.blt t s.n = true) (hnd : Nodup s.s = true) (hc : s.ev cx = some (.v c (.clo f caps))) (ha : viewAllX s.ev s.o args.toList = some ds) (h : CallF P f (ds ++ caps) (.fresh e xs))
    (hM0 : ∀ b, M0 b → b < w0.w.heap.size) : Step P w0 M0 o s ((s.upd true t (.arr e xs)).put t (.own t)) := by
  rintro a w Q ⟨E, hs⟩
  have hcv := hs.ev hc
  simp only [SVok] at hcv
  generalize hq : a.eval cx = q at hcv
  cases hcv with
  | clo _ vs _ hnc hr =>
    have hv := args_repX hs.wok (fun x e hx => hs.ev hx) ha hnc hr
    unfold Oper.wp
    rw [run_call ho hq h.1]
    simp only [Oper.upon]
    have hall := h.2 w (args.toList.map a.eval ++ vs) hv.1 hv.2
    have e1 : (args.toList.map a.eval ++ vs).toArray = args.map a.eval ++ vs.toArray := by apply Array.ext' ; simp
    rw [e1] at hall
    refine hall.mono fun e' w' ⟨v, he, hb, hrv⟩ => ?_
    subst he
    obtain ⟨vals, h1, h2, h3⟩ := hrv
    simp only [hd]
    refine ⟨{ E with cur := fun i => if i = t then v else E.cur i }, SimE.put ?_ (by simpa [St.upd] using hn) sv_own_new⟩
    refine hs.newArr hnd hM0 (grownBy_of_below hb) (fun _ => hb.drawn trivial) (vals := vals) ?_ (fun b hb => Nat.le_of_not_lt (h1.2 b hb)) h2 (fun j d hd => ⟨(h3 j d hd).1, .inr (h3 j d hd).2⟩)
    exact h1.1
theorem pure_callX {ρ : Operand → Option SV} {ob : List (Nat × Ob)} {cx : Operand} {args : Array Operand} {ats : Array TypeId} {c : Cls} {f : FuncId} {caps ds : List AV} {r : RV}
    (ho : o.op = .call { callee := .value cx, args := args, argTypes := ats }) (hc : ρ cx = some (.v c (.clo f caps))) (ha : viewAllX ρ ob args.toList = some ds) (h : CallF P f (ds ++ caps) r)
    (hM0 : ∀ b, M0 b → b < w0.w.heap.size) : Pure P w0 M0 o ρ ob (.v .pl r.data) := by
  intro E w ev hw hx
  have hcv := hx cx _ hc
  simp only [SVok] at hcv
  generalize hq : ev cx = q at hcv
  cases hcv with
  | clo _ vs _ hn hr =>
    have hv := args_repX hw hx ha hn hr
    unfold Yield
    rw [run_call ho hq h.1]
    refine ⟨rfl, ?_⟩
    have hall := h.2 w (args.toList.map ev ++ vs) hv.1 hv.2
    have e1 : (args.toList.map ev ++ vs).toArray = args.map ev ++ vs.toArray := by apply Array.ext' ; simp
    rw [e1] at hall
    refine hall.mono fun e w' ⟨v, he, hb, hrv⟩ => ⟨v, he, hb.to, ?_⟩
    have hrep := hrv.rep (fun b hb => hb)
    refine hrep.weak fun b hb' => ?_
    rcases hb' with hb' | hb'
    · have := hM0 b hb'; have := hw.below.size; omega
    · exact (hw.owned_range hb').2
theorem pure_callD {ρ : Operand → Option SV} {ob : List (Nat × Ob)} {cx : Operand} {args : Array Operand} {ats : Array TypeId} {c : Cls} {f : FuncId} {caps ds : List AV} {d : AV}
    (ho : o.op = .call { callee := .value cx, args := args, argTypes := ats }) (hc : ρ cx = some (.v c (.clo f caps))) (ha : viewAll ρ ob args.toList = some ds) (h : CallF P f (ds ++ caps) (.p d))
    (hM0 : ∀ b, M0 b → b < w0.w.heap.size) : Pure P w0 M0 o ρ ob (.v .pl d) := pure_call (r := .p d) ho hc ha h hM0
theorem pure_tupl {ρ : Operand → Option SV} {ob : List (Nat × Ob)} {u v : Value} (h : Pure P w0 M0 o ρ ob (.v c (.tup [.sc u, .sc v]))) : Pure P w0 M0 o ρ ob (.v .pl (.tup [.sc u, .sc v])) := by
  intro E w ev hw hx
  have h := h E w ev hw hx
  have key : ∀ (z : Value) (w' : World), SVok P M0 w' E ob z (.v c (.tup [.sc u, .sc v])) → SVok P M0 w' E ob z (.v .pl (.tup [.sc u, .sc v])) := fun z w' hr => by
    have hr : Rep w' _ z (.tup [.sc u, .sc v]) := hr
    show Rep w' _ z (.tup [.sc u, .sc v])
    cases hr with
    | tup vs _ hn hr =>
      refine .tup vs _ hn fun j d hj => ?_
      have hq := hr j d hj
      match j with
      | 0 =>
        simp only [List.getElem?_cons_zero, Option.some.injEq] at hj; subst hj
        generalize vs.getD 0 undef = y at hq ⊢
        cases hq with | sc _ h1 => exact .sc _ h1
      | 1 =>
        simp only [List.getElem?_cons_succ, List.getElem?_cons_zero, Option.some.injEq] at hj; subst hj
        generalize vs.getD 1 undef = y at hq ⊢
        cases hq with | sc _ h1 => exact .sc _ h1
      | j + 2 => simp at hj
  unfold Yield at h ⊢
  generalize (execOp ev o).run P w = r at *
  match r, h with
  | .ok (.value z) w', h => exact ⟨h.1, key z w' h.2⟩
  | .ok (.enter f args) w', h =>
    refine ⟨h.1, h.2.mono fun e w'' ⟨z, he, hb, hz⟩ => ⟨z, he, hb, key z w'' hz⟩⟩
theorem pure_scl {ρ : Operand → Option SV} {ob : List (Nat × Ob)} {u : Value} (h : Pure P w0 M0 o ρ ob (.v c (.sc u))) : Pure P w0 M0 o ρ ob (.v .pl (.sc u)) := by
  intro E w ev hw hx
  have h := h E w ev hw hx
  have key : ∀ (z : Value) (w' : World), SVok P M0 w' E ob z (.v c (.sc u)) → SVok P M0 w' E ob z (.v .pl (.sc u)) := fun z w' hr => by
    have hr : Rep w' _ z (.sc u) := hr
    show Rep w' _ z (.sc u)
    cases hr with | sc _ h1 => exact .sc _ h1
  unfold Yield at h ⊢
  generalize (execOp ev o).run P w = r at *
  match r, h with
  | .ok (.value z) w', h => exact ⟨h.1, key z w' h.2⟩
  | .ok (.enter f args) w', h =>
    refine ⟨h.1, h.2.mono fun e w'' ⟨z, he, hb, hz⟩ => ⟨z, he, hb, key z w'' hz⟩⟩
end
end Go.Am

