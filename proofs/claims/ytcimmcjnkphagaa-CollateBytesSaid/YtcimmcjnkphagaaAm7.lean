/-
  Operations that write: what the call owns grows, is made, is stored into.
-/
import Derived.Test.YtcimmcjnkphagaaAm6
import Derived.Maps.AppendAt
import Derived.Great.FillDense
import Derived.Great.BuildSlice
namespace Go.Am
open Go.RowKit
set_option linter.unusedVariables false

def SV.refs (id : Nat) : SV → Bool
  | .own i => Nat.beq i id
  | .pel i _ _ => Nat.beq i id
  | .pbox i _ => Nat.beq i id
  | .omap i => Nat.beq i id
  | .vsl i _ _ => Nat.beq i id
  | _ => false
/-- Slots that outlive a write to object id. -/
def SV.stays (kill : Bool) (id : Nat) : SV → Bool
  | .v .vw _ => false
  | d => !(kill && d.refs id)
def killO (kill : Bool) (id : Nat) (o : List (Nat × Ob)) : List (Nat × Ob) := o.map fun p => (p.1, match p.2 with
  | .box e cs => .box e (cs.map fun d => if d.stays kill id then d else .dead)
  | ob => ob)
def St.upd (s : St) (kill : Bool) (id : Nat) (ob : Ob) : St := { n := s.n, s := s.s.filter (fun p => p.2.stays kill id), o := ins id ob (killO kill id s.o) }

def killOb (kill : Bool) (id : Nat) : Ob → Ob
  | .box e cs => .box e (cs.map fun d => if d.stays kill id then d else .dead)
  | ob => ob
theorem lookup_killO (kill : Bool) (id i : Nat) (o : List (Nat × Ob)) : (killO kill id o).lookup i = (o.lookup i).map (killOb kill id) := by
  induction o with
  | nil => rfl
  | cons p r ih =>
    obtain ⟨t, d⟩ := p
    simp only [killO, List.map_cons] at ih ⊢
    rw [lookup_cons', lookup_cons', ih]
    split
    · cases d <;> rfl
    · rfl
theorem lookup_stays (kill : Bool) (id : Nat) (l : List (Nat × SV)) (t : Nat) (d : SV) (h : (l.filter (fun p => p.2.stays kill id)).lookup t = some d) : (∃ e, l.lookup t = some e) ∧ d.stays kill id = true ∧ ((t, d) ∈ l) := by
  have hm := mem_of_lookup _ h
  obtain ⟨h1, h2⟩ := List.mem_filter.1 hm
  refine ⟨?_, h2, h1⟩
  clear h h2
  induction l with
  | nil => cases h1
  | cons p r ih =>
    obtain ⟨u, e⟩ := p
    rw [lookup_cons']
    split
    · exact ⟨e, rfl⟩
    · rename_i hne
      rcases List.mem_cons.1 h1 with h | h
      · simp only [Prod.mk.injEq] at h; exact absurd h.1 hne
      · exact ih (List.mem_filter.2 ⟨h, (List.mem_filter.1 hm).2⟩) h
/-- No slot twice. -/
def Nodup (l : List (Nat × SV)) : Bool := match l with
  | [] => true
  | (t, _) :: r => !(r.any fun p => Nat.beq p.1 t) && Nodup r
theorem lookup_of_nodup : ∀ (l : List (Nat × SV)) (t : Nat) (d : SV), Nodup l = true → (t, d) ∈ l → l.lookup t = some d
  | [], t, d, _, h => by cases h
  | (u, e) :: r, t, d, hn, h => by
    simp only [Nodup, Bool.and_eq_true, Bool.not_eq_true'] at hn
    rw [lookup_cons']
    rcases List.mem_cons.1 h with h | h
    · simp only [Prod.mk.injEq] at h
      rw [if_pos h.1, h.2]
    · rw [if_neg, lookup_of_nodup r t d hn.2 h]
      intro he
      have h1 := hn.1
      rw [List.any_eq_false] at h1
      exact h1 (t, d) h (by simpa using he)

section
variable {P : Program} {w0 : World} {M0 : Nat → Prop}

/-- Object id is made, or made anew, or written: the rest stands. -/
theorem SimE.upd {E E' : Env} {s : St} {a : Act} {w w' : World} {id : Nat} {ob' : Ob} (kill : Bool) (hkill : kill = false → E' = E ∧ ((∃ e xs xs', s.o.lookup id = some (.arr e xs) ∧ ob' = .arr e xs' ∧ xs'.length = xs.length) ∨ (∃ e cs cs', s.o.lookup id = some (.box e cs) ∧ ob' = .box e cs') ∨ (∃ ks vs ks' vs', s.o.lookup id = some (.mp ks vs) ∧ ob' = .mp ks' vs'))) (h : SimE P w0 M0 E s a w) (hnd : Nodup s.s = true) (hM0 : ∀ b, M0 b → b < w0.heap.size)
    (hE : ∀ i, i ≠ id → E'.cur i = E.cur i ∧ E'.blk i = E.blk i) (row : Option Nat) (hg : w.grownBy w' row) (hdr : w.drawn ≤ w'.drawn)
    (hrow : ∀ g, row = some g → ∃ ob, s.o.lookup id = some ob ∧ ownB E id g ob)
    (hnew : ∀ b, ownB E' id b ob' → (∃ ob, s.o.lookup id = some ob ∧ ownB E id b ob) ∨ w.heap.size ≤ b)
    (hob : (∀ M v d, Rep w (clsM M0 (owned E s.o) M) v d → M ≠ .vw → Rep w' (clsM M0 (owned E' (ins id ob' (killO kill id s.o))) M) v d) → (∀ v d, SVok P M0 w E s.o v d → d.stays kill id = true → SVok P M0 w' E' (ins id ob' (killO kill id s.o)) v d) → ObOk P w0 M0 w' E' (ins id ob' (killO kill id s.o)) id ob') :
    SimE P w0 M0 E' (s.upd kill id ob') a w' := by
  have hlook : ∀ i, i ≠ id → (ins id ob' (killO kill id s.o)).lookup i = (s.o.lookup i).map (killOb kill id) := fun i hi => by rw [lookup_ins, if_neg hi, lookup_killO]
  have hown : ∀ b, owned E' (ins id ob' (killO kill id s.o)) b → owned E s.o b ∨ w.heap.size ≤ b := by
    rintro b ⟨i, ob, h1, h2⟩
    by_cases hi : i = id
    · subst hi
      rw [lookup_ins, if_pos rfl] at h1
      simp only [Option.some.injEq] at h1
      subst h1
      rcases hnew b h2 with ⟨ob, h3, h4⟩ | h3
      · exact .inl ⟨i, ob, h3, h4⟩
      · exact .inr h3
    · rw [hlook i hi, Option.map_eq_some_iff] at h1
      obtain ⟨ob0, h3, rfl⟩ := h1
      refine .inl ⟨i, ob0, h3, ?_⟩
      cases ob0 <;> simp only [killOb, ownB, (hE i hi).1, (hE i hi).2] at h2 ⊢ <;> exact h2
  have rep : ∀ (M : Cls) v d, Rep w (clsM M0 (owned E s.o) M) v d → M ≠ .vw → Rep w' (clsM M0 (owned E' (ins id ob' (killO kill id s.o))) M) v d := by
    intro M v d hr hM
    refine hr.mono hg.size (fun b hb hnM => hg.block b hb (fun he => ?_)) (fun b hb hnM hM' => ?_)
    · obtain ⟨ob, h1, h2⟩ := hrow b he.symm
      have : owned E s.o b := ⟨id, ob, h1, h2⟩
      cases M with
      | pl => exact hnM (.inr this)
      | mx => exact hnM this
      | vw => exact hM rfl
    · cases M with
      | pl =>
        rcases hM' with hM' | hM'
        · exact hnM (.inl hM')
        · rcases hown b hM' with h1 | h1
          · exact hnM (.inr h1)
          · omega
      | mx =>
        rcases hown b hM' with h1 | h1
        · exact hnM h1
        · omega
      | vw => exact hM rfl
  have sv : ∀ v d, SVok P M0 w E s.o v d → d.stays kill id = true → SVok P M0 w' E' (ins id ob' (killO kill id s.o)) v d := by
    intro v d hv hst
    cases d with
    | v c d =>
      refine rep c v d hv ?_
      rintro rfl
      cases hst
    | own i =>
      intro e xs hl
      by_cases hi : i = id
      · subst hi
        have hk : kill = false := by cases kill <;> simp_all [SV.stays, SV.refs]
        obtain ⟨rfl, hh⟩ := hkill hk
        rw [lookup_ins, if_pos rfl] at hl
        simp only [Option.some.injEq] at hl
        subst hl
        rcases hh with ⟨e1, xs1, xs2, h1, h2, h3⟩ | ⟨e1, cs1, cs2, h1, h2⟩ | ⟨k1, v1, k2, v2, h1, h2⟩
        · exact hv _ _ h1
        · cases h2
        · cases h2
      · rw [hlook i hi, Option.map_eq_some_iff] at hl
        obtain ⟨ob0, h3, h4⟩ := hl
        cases ob0 with
        | arr e0 xs0 => rw [(hE i hi).1]; exact hv e0 xs0 h3
        | box e0 cs0 => simp [killOb] at h4
        | mp k0 v0 => simp [killOb] at h4
    | pel i j off =>
      intro e xs hl
      by_cases hi : i = id
      · subst hi
        have hk : kill = false := by cases kill <;> simp_all [SV.stays, SV.refs]
        obtain ⟨rfl, hh⟩ := hkill hk
        rw [lookup_ins, if_pos rfl] at hl
        simp only [Option.some.injEq] at hl
        subst hl
        rcases hh with ⟨e1, xs1, xs2, h1, h2, h3⟩ | ⟨e1, cs1, cs2, h1, h2⟩ | ⟨k1, v1, k2, v2, h1, h2⟩
        · simp only [Ob.arr.injEq] at h2
          obtain ⟨rfl, rfl⟩ := h2
          rw [h3]
          exact hv _ _ h1
        · cases h2
        · cases h2
      · rw [hlook i hi, Option.map_eq_some_iff] at hl
        obtain ⟨ob0, h3, h4⟩ := hl
        cases ob0 with
        | arr e0 xs0 =>
          simp only [killOb, Ob.arr.injEq] at h4
          obtain ⟨rfl, rfl⟩ := h4
          rw [(hE i hi).1]; exact hv e0 xs0 h3
        | box e0 cs0 => simp [killOb] at h4
        | mp k0 v0 => simp [killOb] at h4
    | pbox i off =>
      intro e xs hl
      by_cases hi : i = id
      · subst hi
        have hk : kill = false := by cases kill <;> simp_all [SV.stays, SV.refs]
        obtain ⟨rfl, hh⟩ := hkill hk
        rw [lookup_ins, if_pos rfl] at hl
        simp only [Option.some.injEq] at hl
        subst hl
        rcases hh with ⟨e1, xs1, xs2, h1, h2, h3⟩ | ⟨e1, cs1, cs2, h1, h2⟩ | ⟨k1, v1, k2, v2, h1, h2⟩
        · cases h2
        · exact hv _ _ h1
        · cases h2
      · rw [hlook i hi, Option.map_eq_some_iff] at hl
        obtain ⟨ob0, h3, h4⟩ := hl
        cases ob0 with
        | arr e0 xs0 => simp [killOb] at h4
        | box e0 cs0 =>
          rw [(hE i hi).2]; exact hv e0 cs0 h3
        | mp k0 v0 => simp [killOb] at h4
    | vsl i j off =>
      intro e xs hl
      by_cases hi : i = id
      · subst hi
        have hk : kill = false := by cases kill <;> simp_all [SV.stays, SV.refs]
        obtain ⟨rfl, hh⟩ := hkill hk
        rw [lookup_ins, if_pos rfl] at hl
        simp only [Option.some.injEq] at hl
        subst hl
        rcases hh with ⟨e1, xs1, xs2, h1, h2, h3⟩ | ⟨e1, cs1, cs2, h1, h2⟩ | ⟨k1, v1, k2, v2, h1, h2⟩
        · simp only [Ob.arr.injEq] at h2
          obtain ⟨rfl, rfl⟩ := h2
          rw [h3]
          exact hv _ _ h1
        · cases h2
        · cases h2
      · rw [hlook i hi, Option.map_eq_some_iff] at hl
        obtain ⟨ob0, h3, h4⟩ := hl
        cases ob0 with
        | arr e0 xs0 =>
          simp only [killOb, Ob.arr.injEq] at h4
          obtain ⟨rfl, rfl⟩ := h4
          rw [(hE i hi).1]; exact hv e0 xs0 h3
        | box e0 cs0 => simp [killOb] at h4
        | mp k0 v0 => simp [killOb] at h4
    | omap i =>
      intro ks vs hl
      by_cases hi : i = id
      · subst hi
        have hk : kill = false := by cases kill <;> simp_all [SV.stays, SV.refs]
        obtain ⟨rfl, hh⟩ := hkill hk
        rw [lookup_ins, if_pos rfl] at hl
        simp only [Option.some.injEq] at hl
        subst hl
        rcases hh with ⟨e1, xs1, xs2, h1, h2, h3⟩ | ⟨e1, cs1, cs2, h1, h2⟩ | ⟨k1, v1, k2, v2, h1, h2⟩
        · cases h2
        · cases h2
        · exact hv _ _ h1
      · rw [hlook i hi, Option.map_eq_some_iff] at hl
        obtain ⟨ob0, h3, h4⟩ := hl
        cases ob0 with
        | arr e0 xs0 => simp [killOb] at h4
        | box e0 cs0 => simp [killOb] at h4
        | mp k0 v0 => rw [(hE i hi).2]; exact hv k0 v0 h3
    | dead => trivial
  refine ⟨h.size, h.defers, fun t d ht => ?_, fun i ob hi => ?_, fun i ob i' obx b h1 h2 h3 h4 => ?_, ?_⟩
  · obtain ⟨_, h2, h3⟩ := lookup_stays kill id s.s t d ht
    have := h.slots t d (lookup_of_nodup s.s t d hnd h3)
    exact ⟨this.1, sv _ _ this.2 h2⟩
  · by_cases hid : i = id
    · subst hid
      simp only [St.upd] at hi
      rw [lookup_ins, if_pos rfl] at hi
      simp only [Option.some.injEq] at hi
      subst hi
      exact hob rep sv
    · simp only [St.upd] at hi
      rw [hlook i hid, Option.map_eq_some_iff] at hi
      obtain ⟨ob0, h3, rfl⟩ := hi
      have h0 := h.wok.objs i ob0 h3
      cases ob0 with
      | arr e xs =>
        obtain ⟨vals, h1, h2, h4⟩ := h0
        refine ⟨vals, ?_, h2, fun j d hd => ⟨(h4 j d hd).1, rep .pl _ _ (h4 j d hd).2 (by simp)⟩⟩
        rw [(hE i hid).1]
        refine h1.kept hg ?_
        cases hb : (E.cur i).ownBlock with
        | none => exact .inl rfl
        | some b =>
          refine .inr fun he => ?_
          obtain ⟨ob, h5, h6⟩ := hrow b he.symm
          exact hid (h.wok.disj i _ id ob b h3 h5 hb h6)
      | box e cs =>
        obtain ⟨vals, h1, h2, h4, h5⟩ := h0
        refine ⟨vals, ?_, by rw [(hE i hid).2]; exact h2, by simpa using h4, fun j d hd => ?_⟩
        · rw [(hE i hid).2, hg.block _ ((h.wok.objs i _ h3).own_range rfl).2 (fun he => ?_)]
          · exact h1
          · obtain ⟨ob, h6, h7⟩ := hrow _ he.symm
            exact hid (h.wok.disj i _ id ob _ h3 h6 rfl h7)
        · rw [List.getElem?_map, Option.map_eq_some_iff] at hd
          obtain ⟨d0, hd0, rfl⟩ := hd
          have := h5 j d0 hd0
          split
          · exact ⟨this.1, this.2.1, sv _ _ this.2.2 ‹_›⟩
          · exact ⟨rfl, this.2.1, trivial⟩
      | mp ks vs =>
        obtain ⟨es, clock, h1, h2, h4, h5, h6⟩ := h0
        refine ⟨es, clock, ?_, by rw [(hE i hid).2]; exact h2, h4, h5, fun j d hd => rep .pl _ _ (h6 j d hd) (by simp)⟩
        rw [(hE i hid).2, hg.block _ ((h.wok.objs i _ h3).own_range rfl).2 (fun he => ?_)]
        · exact h1
        · obtain ⟨ob, h6, h7⟩ := hrow _ he.symm
          exact hid (h.wok.disj i _ id ob _ h3 h6 rfl h7)
  · simp only [St.upd] at h1 h2
    have back : ∀ i ob b, (ins id ob' (killO kill id s.o)).lookup i = some ob → ownB E' i b ob → i ≠ id → ∃ ob0, s.o.lookup i = some ob0 ∧ ownB E i b ob0 := by
      intro i ob b hl hb hi
      rw [hlook i hi, Option.map_eq_some_iff] at hl
      obtain ⟨ob0, h3, rfl⟩ := hl
      refine ⟨ob0, h3, ?_⟩
      cases ob0 <;> simp only [killOb, ownB, (hE i hi).1, (hE i hi).2] at hb ⊢ <;> exact hb
    have one : ∀ i ob b, (ins id ob' (killO kill id s.o)).lookup i = some ob → ownB E' i b ob → i ≠ id → ownB E' id b ob' → False := by
      intro i ob b hl hb hi hb'
      obtain ⟨ob0, h5, h6⟩ := back i ob b hl hb hi
      rcases hnew b hb' with ⟨ob1, h7, h8⟩ | h7
      · exact hi (h.wok.disj i ob0 id ob1 b h5 h7 h6 h8)
      · have := ((h.wok.objs i ob0 h5).own_range h6).2
        omega
    by_cases hi : i = id
    · by_cases hi' : i' = id
      · rw [hi, hi']
      · subst hi
        rw [lookup_ins, if_pos rfl] at h1
        simp only [Option.some.injEq] at h1
        subst h1
        exact (one i' _ b h2 h4 hi' h3).elim
    · by_cases hi' : i' = id
      · subst hi'
        rw [lookup_ins, if_pos rfl] at h2
        simp only [Option.some.injEq] at h2
        subst h2
        exact (one i _ b h1 h3 hi h4).elim
      · obtain ⟨ob0, h5, h6⟩ := back i ob b h1 h3 hi
        obtain ⟨ob1, h7, h8⟩ := back i' obx b h2 h4 hi'
        exact h.wok.disj i ob0 i' ob1 b h5 h7 h6 h8
  · exact h.wok.below.trans ((⟨⟨hg.os, hg.tape, hg.output, hg.size, fun k hk => hg.block k (by have := h.wok.below.size; omega) (fun he => by
      obtain ⟨ob, h1, h2⟩ := hrow k he.symm
      have := (h.wok.objs id ob h1).own_range h2
      omega)⟩, hdr⟩ : Below w0.heap.size w w'))
end
end Go.Am
