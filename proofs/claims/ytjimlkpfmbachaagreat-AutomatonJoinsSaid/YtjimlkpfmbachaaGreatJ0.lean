/-
  One operation on an abstract state: what it yields, for operations that write nothing that was there.
-/
import Derived.WalkKit
import Derived.Below
import Derived.WalkSpells
import Derived.WalkLawsBesides
set_option linter.unusedVariables false
set_option linter.unusedSectionVars false
set_option linter.unusedSimpArgs false
namespace Go.Am
open Go.RowKit
set_option linter.unusedVariables false
theorem drawn_setCell (w : World) (a : Addr) (v : Value) : (w.setCell a v).drawn = w.drawn := by
  unfold World.setCell; split <;> rfl
theorem drawn_freeze (w : World) (a : Addr) (n : Nat) : (w.freeze a n).drawn = w.drawn := by
  unfold World.freeze; split <;> rfl
theorem drawn_ask {α : Type} : ∀ (q : Ask α) (w : World), w.drawn ≤ (w.ask q).2.drawn := by
  intro q
  induction q with
  | done a => intro w; exact Nat.le_refl _
  | ask what range k ih =>
    intro w
    unfold World.ask
    simp only []
    split
    · exact ih _ _
    · exact Nat.le_trans (Nat.le_succ _) (ih _ { w with drawn := w.drawn + 1 })
theorem drawn_sys (w : World) (c : Sys) : w.drawn ≤ (w.sys c).2.drawn := by
  have := drawn_ask (Kernel.perform c w.os) w
  unfold World.sys
  split
  · exact Nat.le_refl _
  · rename_i h
    rw [h] at this
    exact this
theorem drawn_farStore {p : Program} {w : World} {a : Addr} {v : Value} {b : Bool} {w' : World} {l : List Addr} (h : w.farStore p a v b = .ok (w', l)) : w'.drawn = w.drawn := by
  unfold World.farStore at h
  split at h
  · split at h
    · simp only [Except.ok.injEq] at h
      subst h
      rename_i r hr
      unfold World.viewStore at hr
      simp only [bind, Except.bind, pure, Except.pure] at hr
      (repeat' (split at hr)) <;> first | (cases hr; done) | (cases hr; rfl)
    · cases h
  · cases h
theorem run_drawn {α : Type} {P : Program} : ∀ (m : Sem α) (w : World) (v : α) (w' : World), m.run P w = .ok v w' → w.drawn ≤ w'.drawn := by
  intro m
  induction m with
  | pure a => intro w v w' h; simp only [Sem.run, Result.ok.injEq] at h; rw [h.2]; exact Nat.le_refl _
  | load md a k ih =>
    intro w v w' h
    simp only [Sem.run] at h
    split at h
    · exact ih _ _ _ _ h
    · split at h
      · exact ih _ _ _ _ h
      · cases h
  | store md a u k ih =>
    intro w v w' h
    have key : ∀ q : Result α, q = .ok v w' → q = (match w.cell? a with
        | some _ => if w.frozen? a then Result.halt (.unsupported (.unsafePointer "a write to bytes that a string shares")) w else k.run P (w.setCell a u)
        | none => match w.farStore P a u (md == .atomic) with
          | .ok (w, _) => k.run P w
          | .error h => .halt h w) → w.drawn ≤ w'.drawn := by
      intro q hq hd
      rw [hq] at hd
      split at hd
      · split at hd
        · cases hd
        · exact Nat.le_trans (Nat.le_of_eq (drawn_setCell _ _ _).symm) (ih _ _ _ hd.symm)
      · split at hd
        · rename_i hf
          exact Nat.le_trans (Nat.le_of_eq (drawn_farStore hf).symm) (ih _ _ _ hd.symm)
        · cases hd
    cases u <;> first | exact key _ h rfl | (cases h; done)
  | new o k ih => intro w v w' h; have := ih _ { w with heap := w.heap.push o } _ _ h; exact this
  | shape r k ih => intro w v w' h; exact ih _ _ _ _ h
  | freeze a n k ih => intro w v w' h; exact Nat.le_trans (Nat.le_of_eq (drawn_freeze _ _ _).symm) (ih _ _ _ h)
  | frozen a k ih => intro w v w' h; exact ih _ _ _ _ h
  | getObj r k ih =>
    intro w v w' h
    simp only [Sem.run] at h
    split at h
    · cases h
    · exact ih _ _ _ _ h
    · cases h
  | setObj r o k ih =>
    intro w v w' h
    simp only [Sem.run] at h
    split at h
    · cases h
    · have := ih { w with heap := w.heap.setIfInBounds r o } _ _ h; exact this
    · cases h
  | choose q k ih =>
    intro w v w' h
    simp only [Sem.run] at h
    split at h
    · exact ih _ _ _ _ h
    · have := ih _ _ _ _ h
      simp only at this; omega
  | sys c k ih =>
    intro w v w' h
    exact Nat.le_trans (drawn_sys _ _) (ih _ _ _ _ h)
  | program k ih => intro w v w' h; exact ih _ _ _ _ h
  | mark m k ih => intro w v w' h; exact ih _ _ _ h
  | halt x => intro w v w' h; cases h
end Go.Am

namespace Go.Am
open Go.RowKit
set_option linter.unusedVariables false

structure BelowD (D : Prop) (B : Nat) (w w' : World) : Prop extends RowKit.Below B w w' where
  drawn : D → w.drawn ≤ w'.drawn
abbrev Below (B : Nat) (w w' : World) : Prop := BelowD True B w w'
theorem BelowD.refl {D : Prop} (B : Nat) (w : World) : BelowD D B w w := ⟨.refl _ _, fun _ => Nat.le_refl _⟩
theorem BelowD.trans {D : Prop} {B : Nat} {a b c : World} (h : BelowD D B a b) (k : BelowD D B b c) : BelowD D B a c := ⟨h.toBelow.trans k.toBelow, fun d => Nat.le_trans (h.drawn d) (k.drawn d)⟩
theorem BelowD.mono {D : Prop} {B B' : Nat} {w w' : World} (h : BelowD D B w w') (hB : B' ≤ B) : BelowD D B' w w' := ⟨h.toBelow.mono hB, h.drawn⟩
theorem BelowD.drew {D : Prop} {B : Nat} {a w : World} (h : BelowD D B a w) : BelowD D B a w.drew := ⟨h.toBelow.drew, fun d => Nat.le_trans (h.drawn d) (Nat.le_succ _)⟩
theorem BelowD.alloc {D : Prop} {B : Nat} {a w : World} (h : BelowD D B a w) (hB : B ≤ w.heap.size) (o : Obj) : BelowD D B a (w.alloc o) := ⟨h.toBelow.alloc hB o, h.drawn⟩
theorem BelowD.less {D D' : Prop} {B : Nat} {w w' : World} (h : BelowD D B w w') (hd : D' → D) : BelowD D' B w w' := ⟨h.toBelow, fun d => h.drawn (hd d)⟩
theorem BelowD.to {D : Prop} {B : Nat} {w w' : World} (h : BelowD True B w w') : BelowD D B w w' := h.less fun _ => trivial
theorem Below.refl {D : Prop} (B : Nat) (w : World) : BelowD D B w w := .refl _ _

structure Fr where
  w : World
  K : Nat → Prop
  hK : ∀ b, K b → b < w.heap.size
  pin : List (Nat × Nat)
  hpin : ∀ x ∈ pin, 1000000 ≤ x.1
  dr : Prop
def Fr.allD (D : Prop) (w : World) : Fr := ⟨w, fun b => b < w.heap.size, fun _ h => h, [], (fun x h => by cases h), D⟩
abbrev Fr.all (w : World) : Fr := Fr.allD True w
structure Keep (D : Prop) (K : Nat → Prop) (w w' : World) : Prop where
  os : w'.os = w.os
  tape : w'.tape = w.tape
  output : w'.output = w.output
  size : w.heap.size ≤ w'.heap.size
  block : ∀ k, K k → w'.heap[k]? = w.heap[k]?
  drawn : D → w.drawn ≤ w'.drawn
theorem Keep.refl {D : Prop} (K : Nat → Prop) (w : World) : Keep D K w w := ⟨rfl, rfl, rfl, Nat.le_refl _, fun _ _ => rfl, fun _ => Nat.le_refl _⟩
theorem Keep.trans {D : Prop} {K : Nat → Prop} {a b c : World} (h : Keep D K a b) (k : Keep D K b c) : Keep D K a c :=
  ⟨k.os.trans h.os, k.tape.trans h.tape, k.output.trans h.output, Nat.le_trans h.size k.size, fun i hi => (k.block i hi).trans (h.block i hi), fun d => Nat.le_trans (h.drawn d) (k.drawn d)⟩
theorem Keep.mono {D : Prop} {K K' : Nat → Prop} {w w' : World} (h : Keep D K w w') (hk : ∀ b, K' b → K b) : Keep D K' w w' := ⟨h.os, h.tape, h.output, h.size, fun k hb => h.block k (hk k hb), h.drawn⟩
theorem BelowD.keep {D : Prop} {w w' : World} {K : Nat → Prop} {B : Nat} (h : BelowD D B w w') (hk : ∀ b, K b → b < B) : Keep D K w w' := ⟨h.os, h.tape, h.output, h.size, fun k hb => h.block k (hk k hb), h.drawn⟩
theorem Keep.below {D : Prop} {w w' : World} {B : Nat} (h : Keep D (fun b => b < B) w w') : BelowD D B w w' := ⟨⟨h.os, h.tape, h.output, h.size, h.block⟩, h.drawn⟩
def Free (w0 : Fr) (M0 : Nat → Prop) (b : Nat) : Prop := ¬ w0.K b ∧ ¬ M0 b

inductive AV where
  | sc (v : Value)
  | sl (xs : List AV)
  | agg (cs : List AV)
  | tup (vs : List AV)
  | pc (cs : List AV) (off : Nat)
  | clo (fn : FuncId) (caps : List AV)
  | mp (ks : List Value) (vs : List AV)
  deriving Inhabited

def AV.cells : AV → List AV
  | .agg cs => cs
  | d => [d]
def AV.leaf : AV → Bool
  | .agg _ => false
  | .tup _ => false
  | _ => true
def flat (xs : List AV) : List AV := xs.flatMap AV.cells

inductive Rep (w : World) (M : Nat → Prop) : Value → AV → Prop
  | sc (v : Value) (h : v.oneCell' = true) : Rep w M v (.sc v)
  | sl (a : Option Addr) (n cap : Nat) (xs : List AV) (k : Nat) (cv : Nat → Value) (hn : xs.length = n) (hc : n ≤ cap) (hk : ∀ x ∈ xs, (AV.cells x).length = k)
      (hb : 0 < n → ∃ b o, a = some ⟨b, o, none⟩ ∧ ¬ M b ∧ b < w.heap.size ∧ ∀ j, j < n * k → w.cell? ⟨b, o + j, none⟩ = some (cv j))
      (hl : ∀ (j : Nat) d, (flat xs)[j]? = some d → AV.leaf d = true)
      (hr : ∀ (j : Nat) d, (flat xs)[j]? = some d → Rep w M (cv j) d) : Rep w M (.slice a n cap) (.sl xs)
  | agg (vs : List Value) (cs : List AV) (hn : vs.length = cs.length) (hl : ∀ (j : Nat) d, cs[j]? = some d → AV.leaf d = true)
      (hr : ∀ (j : Nat) d, cs[j]? = some d → Rep w M (vs.getD j undef) d) : Rep w M (.agg vs.toArray) (.agg cs)
  | tup (vs : List Value) (cs : List AV) (hn : vs.length = cs.length)
      (hr : ∀ (j : Nat) d, cs[j]? = some d → Rep w M (vs.getD j undef) d) : Rep w M (.tuple vs.toArray) (.tup cs)
  | pc (b o off : Nat) (cs : List AV) (cv : Nat → Value) (hM : ¬ M b) (hb : b < w.heap.size)
      (hc : ∀ j, j < cs.length → w.cell? ⟨b, o + j, none⟩ = some (cv j)) (hl : ∀ (j : Nat) d, cs[j]? = some d → AV.leaf d = true)
      (hr : ∀ (j : Nat) d, cs[j]? = some d → Rep w M (cv j) d) : Rep w M (.pointer (some ⟨b, o + off, none⟩)) (.pc cs off)
  | clo (f : FuncId) (vs : List Value) (cs : List AV) (hn : vs.length = cs.length)
      (hr : ∀ (j : Nat) d, cs[j]? = some d → Rep w M (vs.getD j undef) d) : Rep w M (.func (.func f) #[] vs.toArray) (.clo f cs)
  | mp (r : Nat) (es : Array MapEntry) (clock : Nat) (ks : List Value) (vs : List AV) (hM : ¬ M r) (hb : r < w.heap.size) (hc : w.heap[r]? = some (.map es clock)) (hk : es.toList.map (·.key) = ks) (hn : ks.length = vs.length)
      (hr : ∀ (j : Nat) d, vs[j]? = some d → Rep w M ((es.toList.map (·.val)).getD j undef) d) : Rep w M (.map (some r)) (.mp ks vs)

theorem Rep.mono {w w' : World} {M M' : Nat → Prop} {v : Value} {d : AV} (h : Rep w M v d) (hs : w.heap.size ≤ w'.heap.size)
    (hb : ∀ b, b < w.heap.size → ¬ M b → w'.heap[b]? = w.heap[b]?) (hM : ∀ b, b < w.heap.size → ¬ M b → ¬ M' b) : Rep w' M' v d := by
  induction h with
  | sc v h => exact .sc v h
  | sl a n cap xs k cv hn hc hk hbl hl hr ih =>
    refine .sl a n cap xs k cv hn hc hk (fun h0 => ?_) hl ih
    obtain ⟨b, o, e, h1, h2, h3⟩ := hbl h0
    exact ⟨b, o, e, hM b h2 h1, by omega, fun j hj => (World.cell?_of_block (w := w) (hb b h2 h1)).trans (h3 j hj)⟩
  | agg vs cs hn hl hr ih => exact .agg vs cs hn hl ih
  | tup vs cs hn hr ih => exact .tup vs cs hn ih
  | pc b o off cs cv h1 h2 hc hl hr ih =>
    exact .pc b o off cs cv (hM b h2 h1) (by omega) (fun j hj => (World.cell?_of_block (w := w) (hb b h2 h1)).trans (hc j hj)) hl ih
  | clo f vs cs hn hr ih => exact .clo f vs cs hn ih
  | mp r es clock ks vs h1 h2 hc hk hn hr ih => exact .mp r es clock ks vs (hM r h2 h1) (by omega) ((hb r h2 h1).trans hc) hk hn ih

theorem Rep.weak {w : World} {M M' : Nat → Prop} {v : Value} {d : AV} (h : Rep w M v d) (hM : ∀ b, M' b → M b) : Rep w M' v d :=
  h.mono (Nat.le_refl _) (fun _ _ _ => rfl) (fun b _ h1 h2 => h1 (hM b h2))

theorem Rep.under {D : Prop} {w w' : World} {M : Nat → Prop} {v : Value} {d : AV} (h : Rep w M v d) (hb : BelowD D w.heap.size w w') : Rep w' M v d :=
  h.mono hb.size (fun b hlt _ => hb.block b hlt) (fun _ _ h => h)

theorem Rep.one {w : World} {M : Nat → Prop} {v : Value} {d : AV} (h : Rep w M v d) (hl : d.leaf = true) : v.oneCell' = true := by
  cases h <;> simp_all [AV.leaf, Value.oneCell']

theorem Rep.cells {w : World} {M : Nat → Prop} {v : Value} {d : AV} (h : Rep w M v d) (hd : ∀ vs, d ≠ .tup vs) :
    v.cells.size = d.cells.length ∧ (∀ (j : Nat) e, d.cells[j]? = some e → AV.leaf e = true) ∧ ∀ (j : Nat) e, d.cells[j]? = some e → Rep w M (v.cells.getD j undef) e := by
  cases h with
  | sc _ h =>
    refine ⟨?_, ?_, ?_⟩
    · cases v <;> simp_all [Value.cells, AV.cells, Value.oneCell']
    · intro j e he
      cases j with
      | zero => simp [AV.cells] at he; subst he; rfl
      | succ j => simp [AV.cells] at he
    · intro j e he
      cases j with
      | zero =>
        simp [AV.cells] at he
        subst he
        have : v.cells = #[v] := by cases v <;> simp_all [Value.cells, Value.oneCell']
        rw [this]
        exact .sc v h
      | succ j => simp [AV.cells] at he
  | sl a n cap xs k cv hn hc hk hbl hl hr =>
    refine ⟨by simp [Value.cells, AV.cells], fun j e he => ?_, fun j e he => ?_⟩ <;> cases j <;> simp [AV.cells] at he <;> subst he
    · rfl
    · exact .sl a n cap xs k cv hn hc hk hbl hl hr
  | agg vs cs hn hl hr => exact ⟨by simp [Value.cells, AV.cells, hn], hl, fun j e he => by simpa [Value.cells] using hr j e he⟩
  | tup vs cs hn hr => exact absurd rfl (hd _)
  | pc b o off cs cv h1 h2 hc hl hr =>
    refine ⟨by simp [Value.cells, AV.cells], fun j e he => ?_, fun j e he => ?_⟩ <;> cases j <;> simp [AV.cells] at he <;> subst he
    · rfl
    · exact .pc b o off cs cv h1 h2 hc hl hr
  | clo f vs cs hn hr =>
    refine ⟨by simp [Value.cells, AV.cells], fun j e he => ?_, fun j e he => ?_⟩ <;> cases j <;> simp [AV.cells] at he <;> subst he
    · rfl
    · exact .clo f vs cs hn hr
  | mp r es clock ks vs h1 h2 hc hk hn hr =>
    refine ⟨by simp [Value.cells, AV.cells], fun j e he => ?_, fun j e he => ?_⟩ <;> cases j <;> simp [AV.cells] at he <;> subst he
    · rfl
    · exact .mp r es clock ks vs h1 h2 hc hk hn hr

inductive Cls where
  | pl | mx | vw
  deriving DecidableEq, Inhabited
inductive Cap where
  | bx (id : Nat)
  | pl (d : AV)
  deriving Inhabited
inductive SV where
  | v (c : Cls) (d : AV)
  | own (id : Nat)
  | pel (id i off : Nat)
  | pbox (id off : Nat)
  | omap (id : Nat)
  | vsl (id i n : Nat)
  | fn (f : FuncId) (caps : List Cap)
  | dead
  deriving Inhabited
inductive Ob where
  | arr (e : TypeId) (xs : List AV)
  | box (e : TypeId) (cs : List SV)
  | mp (ks : List Value) (vs : List AV)
  deriving Inhabited
structure St where
  n : Nat
  s : List (Nat × SV)
  o : List (Nat × Ob)
  deriving Inhabited
structure Env where
  cur : Nat → Value
  blk : Nat → Nat

def SV.leaf : SV → Bool
  | .v _ d => d.leaf
  | _ => true

def ownB (E : Env) (id : Nat) (b : Nat) : Ob → Prop
  | .arr _ _ => (E.cur id).ownBlock = some b
  | .box _ _ => E.blk id = b
  | .mp _ _ => E.blk id = b
def owned (E : Env) (o : List (Nat × Ob)) (b : Nat) : Prop := ∃ id ob, o.lookup id = some ob ∧ ownB E id b ob
def clsM (M0 own : Nat → Prop) : Cls → Nat → Prop
  | .pl, b => M0 b ∨ own b
  | .mx, b => own b
  | .vw, _ => False

def OwnsF (w0 : Fr) (M0 : Nat → Prop) (w : World) (e : TypeId) (k : Nat) (v : Value) (n : Nat) (xs : List Value) : Prop := w.ownsRow 0 e k v n xs ∧ ∀ b, v.ownBlock = some b → Free w0 M0 b
section
variable (P : Program) (w0 : Fr) (M0 : Nat → Prop)

def CapOk (w : World) (E : Env) (o : List (Nat × Ob)) (v : Value) : Cap → Prop
  | .bx id => ∀ e cs, o.lookup id = some (.box e cs) → v = .pointer (some ⟨E.blk id, 0, none⟩)
  | .pl d => Rep w (clsM M0 (owned E o) .pl) v d
def SVok (w : World) (E : Env) (o : List (Nat × Ob)) (v : Value) : SV → Prop
  | .v c d => Rep w (clsM M0 (owned E o) c) v d
  | .own id => ∀ e xs, o.lookup id = some (.arr e xs) → v = E.cur id
  | .pel id i off => ∀ e xs, o.lookup id = some (.arr e xs) → i < xs.length ∧
      ∃ g, (E.cur id).ownBlock = some g ∧ v = .pointer (some ⟨g, i * P.cellsOf e + off, none⟩)
  | .pbox id off => ∀ e cs, o.lookup id = some (.box e cs) → v = .pointer (some ⟨E.blk id, off, none⟩)
  | .omap id => ∀ ks vs, o.lookup id = some (.mp ks vs) → v = .map (some (E.blk id))
  | .vsl id i n => ∀ e xs, o.lookup id = some (.arr e xs) → i + n ≤ xs.length ∧ ∃ a len cap, E.cur id = .slice a len cap ∧ v = sliced a i (i + n) cap (P.cellsOf e)
  | .fn f caps => ∃ vs : List Value, v = .func (.func f) #[] vs.toArray ∧ vs.length = caps.length ∧ ∀ (j : Nat) c, caps[j]? = some c → CapOk M0 w E o (vs.getD j undef) c
  | .dead => True

def ObOk (w : World) (E : Env) (o : List (Nat × Ob)) (id : Nat) : Ob → Prop
  | .arr e xs => ∃ vals, OwnsF w0 M0 w e (P.cellsOf e) (E.cur id) xs.length vals ∧ (∀ x ∈ xs, (AV.cells x).length = P.cellsOf e) ∧
      (∀ (j : Nat) d, (flat xs)[j]? = some d → AV.leaf d = true ∧ Rep w (clsM M0 (owned E o) .pl) (vals.getD j undef) d)
  | .box e cs => ∃ vals : List Value, w.heap[E.blk id]? = some (.cells vals.toArray e (0, 0)) ∧ Free w0 M0 (E.blk id) ∧ vals.length = cs.length ∧
      (∀ (j : Nat) s, cs[j]? = some s → SV.leaf s = true ∧ (vals.getD j undef).oneCell' = true ∧ SVok P M0 w E o (vals.getD j undef) s)
  | .mp ks vs => ∃ es clock, w.heap[E.blk id]? = some (.map es clock) ∧ Free w0 M0 (E.blk id) ∧ es.toList.map (·.key) = ks ∧ ks.length = vs.length ∧
      (∀ (j : Nat) d, vs[j]? = some d → Rep w (clsM M0 (owned E o) .pl) ((es.toList.map (·.val)).getD j undef) d)

structure WOk (E : Env) (o : List (Nat × Ob)) (w : World) : Prop where
  objs : ∀ id ob, o.lookup id = some ob → ObOk P w0 M0 w E o id ob
  disj : ∀ id ob id' ob' b, o.lookup id = some ob → o.lookup id' = some ob' → ownB E id b ob → ownB E id' b ob' → id = id'
  below : Keep w0.dr w0.K w0.w w
  pins : ∀ x ∈ w0.pin, E.blk x.1 = x.2
structure SimE (E : Env) (s : St) (a : Act) (w : World) : Prop where
  size : a.tmps.size = s.n
  defers : a.defers = []
  slots : ∀ t d, s.s.lookup t = some d → t < s.n ∧ SVok P M0 w E s.o (a.tmps.getD t undef) d
  wok : WOk P w0 M0 E s.o w
def Sim (s : St) (a : Act) (w : World) : Prop := ∃ E, SimE P w0 M0 E s a w

variable {P w0 M0}
theorem ObOk.own_range {w : World} {E : Env} {o : List (Nat × Ob)} {id b : Nat} {ob : Ob} (h : ObOk P w0 M0 w E o id ob) (hb : ownB E id b ob) : Free w0 M0 b ∧ b < w.heap.size := by
  cases ob with
  | arr e xs =>
    obtain ⟨vals, h1, _⟩ := h
    exact ⟨h1.2 b hb, (h1.1.lt b hb).2⟩
  | box e cs =>
    obtain ⟨vals, h1, h2, _⟩ := h
    simp only [ownB] at hb
    subst hb
    refine ⟨h2, ?_⟩
    rcases Nat.lt_or_ge (E.blk id) w.heap.size with hlt | hge
    · exact hlt
    · rw [Array.getElem?_eq_none hge] at h1; cases h1
  | mp ks vs =>
    obtain ⟨es, clock, h1, h2, _⟩ := h
    simp only [ownB] at hb
    subst hb
    refine ⟨h2, ?_⟩
    rcases Nat.lt_or_ge (E.blk id) w.heap.size with hlt | hge
    · exact hlt
    · rw [Array.getElem?_eq_none hge] at h1; cases h1
theorem WOk.owned_range {E : Env} {o : List (Nat × Ob)} {w : World} (h : WOk P w0 M0 E o w) {b : Nat} (hb : owned E o b) : Free w0 M0 b ∧ b < w.heap.size := by
  obtain ⟨id, ob, h1, h2⟩ := hb
  exact (h.objs id ob h1).own_range h2

theorem WOk.new_free {E : Env} {o : List (Nat × Ob)} {w : World} (h : WOk P w0 M0 E o w) (hM0 : ∀ b, M0 b → b < w0.w.heap.size) {b : Nat} (hb : w.heap.size ≤ b) : Free w0 M0 b :=
  ⟨fun hk => by have := w0.hK b hk; have := h.below.size; omega, fun hm => by have := hM0 b hm; have := h.below.size; omega⟩
theorem SVok.below {D : Prop} {w w' : World} {E : Env} {o : List (Nat × Ob)} {v : Value} {d : SV} (h : SVok P M0 w E o v d) (hb : BelowD D w.heap.size w w') : SVok P M0 w' E o v d := by
  cases d with
  | v c d => exact Rep.under h hb
  | own id => exact h
  | pel id i off => exact h
  | pbox id off => exact h
  | omap id => exact h
  | vsl id i n => exact h
  | fn f caps =>
    obtain ⟨vs, h1, h2, h3⟩ := h
    refine ⟨vs, h1, h2, fun j c hc => ?_⟩
    have := h3 j c hc
    cases c with
    | bx id => exact this
    | pl d => exact Rep.under this hb
  | dead => exact h
theorem grownBy_of_below {D : Prop} {w w' : World} (hb : BelowD D w.heap.size w w') : w.grownBy w' none :=
  ⟨hb.os, hb.tape, hb.output, hb.size, fun k hk _ => hb.block k hk⟩
theorem ObOk.below {D : Prop} {w w' : World} {E : Env} {o : List (Nat × Ob)} {id : Nat} {ob : Ob} (h : ObOk P w0 M0 w E o id ob) (hb : BelowD D w.heap.size w w') : ObOk P w0 M0 w' E o id ob := by
  cases ob with
  | arr e xs =>
    obtain ⟨vals, h1, h2, h3⟩ := h
    refine ⟨vals, ⟨h1.1.kept (grownBy_of_below hb) ?_, h1.2⟩, h2, fun j d hd => ⟨(h3 j d hd).1, (h3 j d hd).2.under hb⟩⟩
    cases (E.cur id).ownBlock <;> simp
  | box e cs =>
    obtain ⟨vals, h1, h2, h3, h4⟩ := h
    refine ⟨vals, ?_, h2, h3, fun j s hs => ⟨(h4 j s hs).1, (h4 j s hs).2.1, (h4 j s hs).2.2.below hb⟩⟩
    have hlt : E.blk id < w.heap.size := by
      rcases Nat.lt_or_ge (E.blk id) w.heap.size with hlt | hge
      · exact hlt
      · rw [Array.getElem?_eq_none hge] at h1; cases h1
    rw [hb.block _ hlt]; exact h1
  | mp ks vs =>
    have hlt := (ObOk.own_range h rfl).2
    obtain ⟨es, clock, h1, h2, h3, h4, h5⟩ := h
    exact ⟨es, clock, by rw [hb.block _ hlt]; exact h1, h2, h3, h4, fun j d hd => (h5 j d hd).under hb⟩
theorem WOk.grow {E : Env} {o : List (Nat × Ob)} {w w' : World} (h : WOk P w0 M0 E o w) (hb : BelowD w0.dr w.heap.size w w') : WOk P w0 M0 E o w' :=
  ⟨fun id ob ho => (h.objs id ob ho).below hb, h.disj, h.below.trans (hb.keep fun b hk => Nat.lt_of_lt_of_le (w0.hK b hk) h.below.size), h.pins⟩
theorem SimE.grow {E : Env} {s : St} {a : Act} {w w' : World} (h : SimE P w0 M0 E s a w) (hb : BelowD w0.dr w.heap.size w w') : SimE P w0 M0 E s a w' :=
  ⟨h.size, h.defers, fun t d hd => ⟨(h.slots t d hd).1, (h.slots t d hd).2.below hb⟩, h.wok.grow hb⟩
theorem Sim.grow {s : St} {a : Act} {w w' : World} (h : Sim P w0 M0 s a w) (hb : BelowD w0.dr w.heap.size w w') : Sim P w0 M0 s a w' :=
  let ⟨E, h⟩ := h
  ⟨E, h.grow hb⟩
end
end Go.Am

namespace Go.Am
open Go.RowKit
set_option linter.unusedVariables false

def ins {α : Type} (t : Nat) (d : α) : List (Nat × α) → List (Nat × α)
  | [] => [(t, d)]
  | (u, e) :: r => if t < u then (t, d) :: (u, e) :: r else if t = u then (t, d) :: r else (u, e) :: ins t d r
theorem lookup_cons' {α : Type} (u t : Nat) (d : α) (r : List (Nat × α)) : List.lookup u ((t, d) :: r) = if u = t then some d else r.lookup u := by
  by_cases h : u = t
  · subst h; simp [List.lookup]
  · have : (u == t) = false := by simpa using h
    simp [List.lookup, this, h]
theorem lookup_ins {α : Type} (t u : Nat) (d : α) (l : List (Nat × α)) : (ins t d l).lookup u = if u = t then some d else l.lookup u := by
  induction l with
  | nil => simp [ins, lookup_cons']
  | cons p r ih =>
    obtain ⟨x, e⟩ := p
    unfold ins
    split
    · rw [lookup_cons', lookup_cons']
    · split
      · rename_i h2
        subst h2
        rw [lookup_cons', lookup_cons']
        split <;> simp_all
      · rename_i h2
        rw [lookup_cons', ih, lookup_cons']
        by_cases ha : u = x
        · subst ha; simp [Ne.symm h2]
        · simp [ha]

def St.put (s : St) (t : Nat) (d : SV) : St := { s with s := ins t d s.s }
def St.setO (s : St) (id : Nat) (ob : Ob) : St := { s with o := ins id ob s.o }

section
variable {P : Program} {w0 : Fr} {M0 : Nat → Prop}

theorem SimE.put {E : Env} {s : St} {a : Act} {w : World} (h : SimE P w0 M0 E s a w) {t : Nat} (ht : t < s.n) {v : Value} {d : SV} (hv : SVok P M0 w E s.o v d) :
    SimE P w0 M0 E (s.put t d) (a.put (some t) v) w := by
  refine ⟨by simpa [Act.put, St.put] using h.size, h.defers, fun u e he => ?_, h.wok⟩
  simp only [St.put] at he ⊢
  rw [lookup_ins] at he
  by_cases hu : u = t
  · subst hu
    simp only [if_true, Option.some.injEq] at he
    subst he
    refine ⟨ht, ?_⟩
    have : (a.put (some u) v).tmps.getD u undef = v := by
      have := h.size
      simp [Act.put, Array.getD_eq_getD_getElem?, this, ht]
    rw [this]; exact hv
  · rw [if_neg hu] at he
    have := h.slots u e he
    refine ⟨this.1, ?_⟩
    have hq : (a.put (some t) v).tmps.getD u undef = a.tmps.getD u undef := by
      simp [Act.put, Array.getD_eq_getD_getElem?, Ne.symm hu]
    rw [hq]; exact this.2

def constAV : Value → Option AV
  | .agg cs => bif cs.toList.all Value.oneCell' then some (.agg (cs.toList.map .sc)) else none
  | .tuple _ => none
  | v => some (.sc v)
def St.ev (s : St) : Operand → Option SV
  | .tmp t => s.s.lookup t
  | .const v => (constAV v).map (.v .pl)
  | .func f => some (.v .pl (.clo f []))
  | .global _ => none
theorem constAV_ok {w : World} {M : Nat → Prop} {v : Value} {d : AV} (h : constAV v = some d) : Rep w M v d := by
  unfold constAV at h
  split at h
  · rename_i cs
    cases hc : cs.toList.all Value.oneCell'
    · simp [hc] at h
    · simp only [hc, cond_true, Option.some.injEq] at h
      subst h
      rw [List.all_eq_true] at hc
      have := Rep.agg (w := w) (M := M) cs.toList (cs.toList.map .sc) (by simp) (fun j d hd => by
          simp at hd; obtain ⟨x, _, rfl⟩ := hd; rfl) (fun j d hd => by
          rw [List.getElem?_map] at hd
          cases hx : cs.toList[j]? with
          | none => simp [hx] at hd
          | some x =>
            rw [hx] at hd
            simp only [Option.map_some, Option.some.injEq] at hd
            subst hd
            rw [List.getD_eq_getElem?_getD, hx]
            exact .sc x (hc x (List.mem_of_getElem? hx)))
      simpa using this
  · cases h
  · simp only [Option.some.injEq] at h
    subst h
    exact .sc v (by cases v <;> simp_all [Value.oneCell'])
theorem SimE.ev {E : Env} {s : St} {a : Act} {w : World} (h : SimE P w0 M0 E s a w) {x : Operand} {d : SV} (hx : s.ev x = some d) : SVok P M0 w E s.o (a.eval x) d := by
  cases x with
  | tmp t => exact (h.slots t d hx).2
  | const v =>
    simp only [St.ev, Option.map_eq_some_iff] at hx
    obtain ⟨e, he, rfl⟩ := hx
    exact constAV_ok he
  | func f =>
    simp only [St.ev, Option.some.injEq] at hx
    subst hx
    exact .clo f [] [] rfl (fun j d hd => by simp at hd)
  | global g => cases hx

def Yield (P : Program) (ev : Operand → Value) (o : Oper) (w : World) (R : Value → World → Prop) : Prop :=
  match (execOp ev o).run P w with
  | .ok (.value v) w' => R v w'
  | .ok (.enter f args) w' => w' = w ∧ Calls P f args w (fun e w'' => ∃ v, e = .returned v ∧ R v w'')
  | _ => False
def Pure (P : Program) (w0 : Fr) (M0 : Nat → Prop) (o : Oper) (ρ : Operand → Option SV) (ob : List (Nat × Ob)) (d : SV) : Prop :=
  ∀ (E : Env) (w : World) (ev : Operand → Value), WOk P w0 M0 E ob w → (∀ x e, ρ x = some e → SVok P M0 w E ob (ev x) e) →
    Yield P ev o w (fun v w' => BelowD w0.dr w.heap.size w w' ∧ SVok P M0 w' E ob v d)
def Step (P : Program) (w0 : Fr) (M0 : Nat → Prop) (o : Oper) (s s' : St) : Prop :=
  ∀ a w Q, Sim P w0 M0 s a w → o.wp P a w (fun a' w' => Sim P w0 M0 s' a' w') Q
theorem step_pure {o : Oper} {s : St} {t : Nat} {d : SV} (hd : o.dst = some t) (ht : t < s.n) (h : Pure P w0 M0 o s.ev s.o d) : Step P w0 M0 o s (s.put t d) := by
  rintro a w Q ⟨E, hs⟩
  have hy := h E w a.eval hs.wok (fun x e hx => hs.ev hx)
  unfold Yield at hy
  unfold Oper.wp
  generalize (execOp a.eval o).run P w = r at *
  match r, hy with
  | .ok (.value v) w', hy =>
    simp only [Oper.upon, hd]
    exact ⟨E, (hs.grow hy.1).put ht hy.2⟩
  | .ok (.enter f args) w', hy =>
    obtain ⟨rfl, hc⟩ := hy
    simp only [Oper.upon]
    refine hc.mono fun e w'' ⟨v, he, hb, hv⟩ => ?_
    subst he
    rw [hd]
    exact ⟨E, (hs.grow hb).put ht hv⟩

theorem pure_value {o : Oper} {ρ : Operand → Option SV} {ob : List (Nat × Ob)} {d : SV}
    (h : ∀ (E : Env) (w : World) (ev : Operand → Value), WOk P w0 M0 E ob w → (∀ x e, ρ x = some e → SVok P M0 w E ob (ev x) e) →
      ∃ v w', (execOp ev o).run P w = .ok (.value v) w' ∧ BelowD w0.dr w.heap.size w w' ∧ SVok P M0 w' E ob v d) : Pure P w0 M0 o ρ ob d := by
  intro E w ev hw hx
  obtain ⟨v, w', h1, h2⟩ := h E w ev hw hx
  unfold Yield
  rw [h1]
  exact h2

section ops
variable {o : Oper} {ρ : Operand → Option SV} {ob : List (Nat × Ob)} {d : SV} {x y : Operand}
theorem pure_move (ho : o.op = .move x) (hx : ρ x = some d) : Pure P w0 M0 o ρ ob d :=
  pure_value fun E w ev hw h => ⟨ev x, w, by simp [execOp, ho], .refl _ _, h x d hx⟩
theorem pure_assign (ho : o.op = .assign x) (hx : ρ x = some d) : Pure P w0 M0 o ρ ob d :=
  pure_value fun E w ev hw h => ⟨ev x, w, by simp [execOp, ho], .refl _ _, h x d hx⟩

def SV.val : SV → Option Value
  | .v _ (.sc u) => some u
  | _ => none
theorem SVok.val {w : World} {E : Env} {o : List (Nat × Ob)} {v u : Value} {d : SV} (h : SVok P M0 w E o v d) (hd : d.val = some u) : v = u := by
  cases d with
  | v c d =>
    cases d with
    | sc z =>
      simp only [SV.val, Option.some.injEq] at hd
      subst hd
      cases h; rfl
    | _ => cases hd
  | _ => cases hd
def scal (ρ : Operand → Option SV) (x : Operand) : Option Value := (ρ x).bind SV.val
theorem scal_ok {E : Env} {w : World} {ev : Operand → Value} (h : ∀ x e, ρ x = some e → SVok P M0 w E ob (ev x) e) {u : Value} (hx : scal ρ x = some u) : ev x = u := by
  unfold scal at hx
  cases hr : ρ x with
  | none => rw [hr] at hx; cases hx
  | some e => rw [hr] at hx; exact (h x e hr).val hx
theorem sv_sc {w : World} {E : Env} {o : List (Nat × Ob)} {v : Value} {c : Cls} (h : v.oneCell' = true) : SVok P M0 w E o v (.v c (.sc v)) := .sc v h
theorem pure_scal {u : Value} (hu : u.oneCell' = true) (h : ∀ (w : World) (ev : Operand → Value), (∀ x v, scal ρ x = some v → ev x = v) → (execOp ev o).run P w = .ok (.value u) w) :
    Pure P w0 M0 o ρ ob (.v .pl (.sc u)) :=
  pure_value fun E w ev hw hx => ⟨u, w, h w ev (fun x v hv => scal_ok hx hv), .refl _ _, sv_sc hu⟩
section
variable {op : BinOp} {T T' : TypeId} {k : IntKind} {a b : Int}
theorem pure_bin {u : Value} {va vb : Value} (ho : o.op = .binOp op T x y T') (hx : scal ρ x = some va) (hy : scal ρ y = some vb) (hu : u.oneCell' = true)
    (hg : eqGuard op T x y va vb = pure ()) (hb : ∀ w, (binOp op T va vb).run P w = .ok u w) : Pure P w0 M0 o ρ ob (.v .pl (.sc u)) :=
  pure_scal hu fun w ev h => by simp [execOp, ho, h x va hx, h y vb hy, hg, hb]
theorem pure_add (ho : o.op = .binOp .add T x y T') (hx : scal ρ x = some (.int k a)) (hy : scal ρ y = some (.int k b)) : Pure P w0 M0 o ρ ob (.v .pl (.sc (.int k (k.wrap (a + b))))) :=
  pure_bin ho hx hy rfl (by simp [go_sem]) (fun w => by simp [go_sem])
theorem pure_sub (ho : o.op = .binOp .sub T x y T') (hx : scal ρ x = some (.int k a)) (hy : scal ρ y = some (.int k b)) : Pure P w0 M0 o ρ ob (.v .pl (.sc (.int k (k.wrap (a - b))))) :=
  pure_bin ho hx hy rfl (by simp [go_sem]) (fun w => by simp [go_sem])
theorem pure_mul (ho : o.op = .binOp .mul T x y T') (hx : scal ρ x = some (.int k a)) (hy : scal ρ y = some (.int k b)) : Pure P w0 M0 o ρ ob (.v .pl (.sc (.int k (k.wrap (a * b))))) :=
  pure_bin ho hx hy rfl (by simp [go_sem]) (fun w => by simp [go_sem])
theorem pure_quo (ho : o.op = .binOp .quo T x y T') (hx : scal ρ x = some (.int k a)) (hy : scal ρ y = some (.int k b)) (hb : b ≠ 0) : Pure P w0 M0 o ρ ob (.v .pl (.sc (.int k (k.wrap (a.tdiv b))))) :=
  pure_bin ho hx hy rfl (by simp [go_sem]) (fun w => by simp [go_sem, Op.intDiv, hb])
theorem pure_rem (ho : o.op = .binOp .rem T x y T') (hx : scal ρ x = some (.int k a)) (hy : scal ρ y = some (.int k b)) (hb : b ≠ 0) : Pure P w0 M0 o ρ ob (.v .pl (.sc (.int k (a.tmod b)))) :=
  pure_bin ho hx hy rfl (by simp [go_sem]) (fun w => by simp [go_sem, Op.intDiv, hb])
theorem pure_lss (ho : o.op = .binOp .lss T x y T') (hx : scal ρ x = some (.int k a)) (hy : scal ρ y = some (.int k b)) : Pure P w0 M0 o ρ ob (.v .pl (.sc (.bool (decide (a < b))))) :=
  pure_bin ho hx hy rfl (by simp [go_sem]) (fun w => by simp [go_sem])
theorem pure_leq (ho : o.op = .binOp .leq T x y T') (hx : scal ρ x = some (.int k a)) (hy : scal ρ y = some (.int k b)) : Pure P w0 M0 o ρ ob (.v .pl (.sc (.bool (decide (a ≤ b))))) :=
  pure_bin ho hx hy rfl (by simp [go_sem]) (fun w => by simp [go_sem])
theorem pure_gtr (ho : o.op = .binOp .gtr T x y T') (hx : scal ρ x = some (.int k a)) (hy : scal ρ y = some (.int k b)) : Pure P w0 M0 o ρ ob (.v .pl (.sc (.bool (decide (b < a))))) :=
  pure_bin ho hx hy rfl (by simp [go_sem]) (fun w => by simp [go_sem])
theorem pure_geq (ho : o.op = .binOp .geq T x y T') (hx : scal ρ x = some (.int k a)) (hy : scal ρ y = some (.int k b)) : Pure P w0 M0 o ρ ob (.v .pl (.sc (.bool (decide (b ≤ a))))) :=
  pure_bin ho hx hy rfl (by simp [go_sem]) (fun w => by simp [go_sem])
theorem pure_eql (ho : o.op = .binOp .eql T x y T') (hx : scal ρ x = some (.int k a)) (hy : scal ρ y = some (.int k b)) : Pure P w0 M0 o ρ ob (.v .pl (.sc (.bool (decide (a = b))))) :=
  pure_bin ho hx hy rfl (by simp [go_sem]) (fun w => by simp only [binOp_eql, Sem.run_pure]; congr)
theorem pure_neq (ho : o.op = .binOp .neq T x y T') (hx : scal ρ x = some (.int k a)) (hy : scal ρ y = some (.int k b)) : Pure P w0 M0 o ρ ob (.v .pl (.sc (.bool (!decide (a = b))))) :=
  pure_bin ho hx hy rfl (by simp [go_sem]) (fun w => by simp only [binOp_neq, Sem.run_pure]; congr)
theorem pure_pick {c : Operand} {z : Bool} (ho : o.op = .pick c x y) (hc : scal ρ c = some (.bool z)) (hx : ρ (bif z then x else y) = some d) : Pure P w0 M0 o ρ ob d :=
  pure_value fun E w ev hw h => ⟨ev (bif z then x else y), w, by cases z <;> simp [execOp, ho, scal_ok h hc, asBool], .refl _ _, h _ d hx⟩
end
end ops
end
end Go.Am

