/-
  Plain functions: the alternatives of an iterated derivative are among a list that is made of the expression alone.
-/
import Derived.Test.YtgdehkimfmfofaaGreatJ22
import Derived.Test.YtgdehkimfmfofaaGreatJ18
import Derived.Test.YtgdehkimfmfofaaGreatJ13
import Derived.Test.YtgdehkimfmfofaaGreatJ14
import Derived.Lib.AppendStr
import Derived.Test.YtgdehkimfmfofaaGreatJ10
set_option linter.unusedVariables false
set_option linter.unusedSimpArgs false
namespace Go.Wb
set_option linter.unusedVariables false
open Go.Am Go.Wc
set_option maxRecDepth 100000
def abcL : List Letter := [⟨[97], 0, 0, 0, 1⟩, ⟨[98], 1, 0, 0, 1⟩, ⟨[99], 2, 0, 0, 1⟩]
def restL : Rx := .mk 5 [] [.mk 2 [1, 2] []]
def xL : Rx := .mk 3 [] [.mk 2 [0] [], restL]
def zL : Rx := .mk 3 [] [restL, .mk 2 [0] []]
theorem liv1 : parseP abcL [] [97, 40, 98, 124, 99, 41, 42] = (xL, -1) := by kernel_rfl
theorem liv2 : (parseP abcL [] [97, 41]).2 = 1 := by kernel_rfl
theorem liv3 : (parseP abcL [] [40, 97]).2 = 2 := by kernel_rfl
theorem liv4 : (parseP abcL [] [97, 42, 98, 124, 42]).2 = 4 := by kernel_rfl
theorem liv5 : printP abcL xL = [97, 40, 98, 124, 99, 41, 42] := by kernel_rfl
theorem liv6 : dR 0 (simR xL) = restL := by kernel_rfl
theorem liv7 : dR 1 (simR xL) = noneRx := by kernel_rfl
theorem liv8 : simR (.mk 4 [] [emptyRx, restL]) = restL := by kernel_rfl
theorem liv9 : revR xL = zL := by kernel_rfl
theorem liv10 : matchR xL [0, 1, 2, 1] = true := by kernel_rfl
theorem liv11 : matchR xL [1] = false := by kernel_rfl
theorem liv12 : validR xL = true := by kernel_rfl
end Go.Wb

namespace Go.Wb
set_option linter.unusedVariables false
open Go.Am
def rvR (x : Rx) : Rx := buildR true x
structure RvOk (x : Rx) : Prop where
  nf : Nf x
  kind : (rvR x).kind = x.kind
  acc : accR (rvR x) = accR x
  rnf : Nf (rvR x)
  inv : rvR (rvR x) = x
  kids : x.kind = 4 → ∀ y ∈ (rvR x).kids, ∃ z ∈ x.kids, y.kind = z.kind
  kids' : x.kind = 4 → ∀ z ∈ x.kids, ∃ y ∈ (rvR x).kids, z.kind = y.kind
theorem RvOk.rv {x : Rx} (h : RvOk x) : RvOk (rvR x) := by
  refine ⟨h.rnf, by rw [h.inv, h.kind], by rw [h.inv, h.acc], by rw [h.inv]; exact h.nf, by rw [h.inv], fun h4 y hy => ?_, fun h4 y hy => ?_⟩
  · rw [h.inv] at hy
    exact h.kids' (by rw [← h.kind]; exact h4) y hy
  · rw [h.inv]
    exact h.kids (by rw [← h.kind]; exact h4) y hy
structure AltOk (l : List Rx) : Prop where
  len : 2 ≤ l.length
  rv : ∀ x ∈ l, RvOk x
  kinds : ∀ x ∈ l, x.kind ≠ 0 ∧ x.kind ≠ 4
  srt : Srt leR l
  two : ∀ x ∈ l, ∀ y ∈ l, x.kind = 2 → y.kind = 2 → x = y
  acc : ∀ x ∈ l, x.kind = 1 → ∀ y ∈ l, y.kind ≠ 1 → accR y = false
theorem AltOk.nf {l : List Rx} (h : AltOk l) : Nf (.mk 4 [] l) := .alt h.len (fun x hx => (h.rv x hx).nf) h.kinds h.srt h.two h.acc
end Go.Wb

namespace Go.Wb
set_option linter.unusedVariables false
open Go.Am
end Go.Wb

namespace Go.Wb
set_option linter.unusedVariables false
open Go.Am Go.Wc
theorem valid_one {v : Int} (h : 0 ≤ v ∧ v < 64) : validR (.mk 2 [v] []) = true := nf_valid (.set (sing_ok h))
theorem valid_two {v w : Int} (h : 0 ≤ v ∧ v < w ∧ w < 64) : validR (.mk 2 [v, w] []) = true := by
  refine nf_valid (.set (setOk_iff.2 ⟨Nat.succ_pos _, ?_, fun x hx => ?_⟩))
  · exact List.pairwise_cons.2 ⟨fun y hy => by rw [List.mem_singleton.1 hy]; exact ⟨decide_eq_true (by omega), by omega⟩, List.pairwise_singleton _ _⟩
  · rcases List.mem_cons.1 hx with rfl | hx
    · omega
    · rw [List.mem_singleton.1 hx]; omega
theorem valid_star {x : Rx} (h : validR x = true) : validR (.mk 5 [] [x]) = true := by
  rw [validR_5 rfl]
  show (true && (true && validR x)) = true
  rw [h]; rfl
theorem valid_pair {k : Int} {x y : Rx} (hk : k = 3 ∨ k = 4) (hx : validR x = true) (hy : validR y = true) : validR (.mk k [] [x, y]) = true := by
  rw [validR_34 (r := .mk k [] [x, y]) hk]
  show (true && !(List.any [x, y] fun x => !validR x)) = true
  simp [hx, hy]
theorem valid_leaf {k : Int} (hk : k = 0 ∨ k = 1) : validR (.mk k [] []) = true := by rw [validR_01 (r := .mk k [] []) hk]; rfl
theorem shpF_valid {most n : Int} {st : List Rx} (hm : 0 < most ∧ most ≤ 64) (hn : 0 ≤ n) (h : ∀ x ∈ st, validR x = true) : ∀ x ∈ shpF most n st, validR x = true := by
  have a1 := Int.emod_nonneg (n / 8) (show most ≠ 0 by omega)
  have a2 := Int.emod_lt_of_pos (n / 8) hm.1
  have b1 := Int.emod_nonneg (n / 8 / most) (show most ≠ 0 by omega)
  have b2 := Int.emod_lt_of_pos (n / 8 / most) hm.1
  have hg : ∀ i, i < st.length → validR (st.getD i default) = true := fun i hi => h _ (kid_mem hi)
  have happ : ∀ y, validR y = true → ∀ x ∈ st ++ [y], validR x = true := fun y hy x hx => by
    rcases List.mem_append.1 hx with hx | hx
    · exact h x hx
    · rw [List.mem_singleton.1 hx]; exact hy
  have hset : ∀ i y, validR y = true → ∀ x ∈ st.set i y, validR x = true := fun i y hy x hx => by
    rcases List.mem_or_eq_of_mem_set hx with hx | hx
    · exact h x hx
    · rw [hx]; exact hy
  unfold shpF
  split
  · exact happ _ (valid_one (by omega))
  · split
    · refine happ _ ?_
      split
      · exact valid_one (by omega)
      · refine valid_two ?_
        unfold minI maxI
        split <;> split <;> omega
    · split
      · next hc => exact hset _ _ (valid_star (hg _ (by omega)))
      · split
        · next hc => exact fun x hx => hset _ _ (valid_pair (.inl rfl) (hg _ (by omega)) (hg _ (by omega))) x (List.mem_of_mem_take hx)
        · split
          · next hc => exact fun x hx => hset _ _ (valid_pair (.inr rfl) (hg _ (by omega)) (hg _ (by omega))) x (List.mem_of_mem_take hx)
          · split
            · next hc => exact hset _ _ (valid_pair (.inr rfl) (valid_leaf (.inr rfl)) (hg _ (by omega)))
            · split
              · refine happ _ (valid_leaf ?_)
                unfold minI
                split <;> omega
              · exact h
theorem sizes_set : ∀ {l : List Rx} {k : Nat} {y : Rx}, k < l.length → Rx.sizes (l.set k y) + (l.getD k default).size = Rx.sizes l + y.size
  | x :: l, 0, y, _ => by
    show Rx.sizes (y :: l) + x.size = _
    rw [Rx.sizes, Rx.sizes]; omega
  | x :: l, k + 1, y, h => by
    have := sizes_set (l := l) (k := k) (y := y) (by simpa using h)
    show Rx.sizes (x :: l.set k y) + (l.getD k default).size = _
    rw [Rx.sizes, Rx.sizes]; omega
theorem sizes_pop {l : List Rx} {k : Nat} (h : k + 1 = l.length) : Rx.sizes (l.take k) + (l.getD k default).size = Rx.sizes l := by
  have h1 := sizes_take_drop l k
  rw [drop_cons (by omega), List.drop_of_length_le (by omega), Rx.sizes, show Rx.sizes [] = 0 from rfl] at h1
  omega
theorem size_two (k : Int) (x y : Rx) : (Rx.mk k [] [x, y]).size = 1 + x.size + y.size := by rw [size_mk, Rx.sizes, Rx.sizes, show Rx.sizes [] = 0 from rfl, List.length_nil]; omega
theorem shpF_size (most n : Int) (st : List Rx) : Rx.sizes (shpF most n st) ≤ Rx.sizes st + 3 := by
  have happ : ∀ y : Rx, y.size ≤ 3 → Rx.sizes (st ++ [y]) ≤ Rx.sizes st + 3 := fun y hy => by
    rw [sizes_append, Rx.sizes, show Rx.sizes [] = 0 from rfl]; omega
  have hset1 : ∀ {k : Nat} {y : Rx}, k < st.length → y.size ≤ (st.getD k default).size + 2 → Rx.sizes (st.set k y) ≤ Rx.sizes st + 3 := fun {k y} hk hy => by
    have := sizes_set (y := y) hk; omega
  have hpop : ∀ (c : Int), 1 < st.length → Rx.sizes ((st.set (st.length - 2) (.mk c [] [st.getD (st.length - 2) default, st.getD (st.length - 1) default])).take (st.length - 1)) ≤ Rx.sizes st + 3 := fun c h => by
    have h1 := sizes_set (l := st) (k := st.length - 2) (y := .mk c [] [st.getD (st.length - 2) default, st.getD (st.length - 1) default]) (by omega)
    rw [size_two] at h1
    have h2 := sizes_pop (l := st.set (st.length - 2) (.mk c [] [st.getD (st.length - 2) default, st.getD (st.length - 1) default])) (k := st.length - 1) (by rw [List.length_set]; omega)
    rw [getD_set_ne' (by omega)] at h2
    omega
  unfold shpF
  split
  · exact happ _ (by rw [size_mk]; simp only [List.length_cons, List.length_nil, Rx.sizes]; omega)
  · split
    · refine happ _ ?_
      split
      · rw [size_mk]; simp only [List.length_cons, List.length_nil, Rx.sizes]; omega
      · rw [size_mk]; simp only [List.length_cons, List.length_nil, Rx.sizes]; omega
    · split
      · next hc => exact hset1 (by omega) (by rw [size_mk, Rx.sizes, show Rx.sizes [] = 0 from rfl, List.length_nil]; omega)
      · split
        · next hc => exact hpop 3 hc.2
        · split
          · next hc => exact hpop 4 hc.2
          · split
            · next hc => exact hset1 (by omega) (by rw [size_two, show (emptyRx).size = 1 from rfl]; omega)
            · split
              · exact happ _ (by rw [size_mk]; simp only [List.length_cons, List.length_nil, Rx.sizes]; omega)
              · omega
theorem shpN_good {most : Int} {l : List Int} (hm : 0 < most ∧ most ≤ 64) : ∀ i, (∀ x ∈ shpN most l i, validR x = true) ∧ Rx.sizes (shpN most l i) ≤ 3 * i
  | 0 => ⟨(fun x hx => by cases hx), Nat.le_refl _⟩
  | i + 1 => by
    obtain ⟨h1, h2⟩ := shpN_good (l := l) hm i
    have h3 := shpF_size most (around (l.getD i default) 1048576) (shpN most l i)
    rw [shpN]
    exact ⟨shpF_valid hm (around_lt (by decide)).1 h1, by omega⟩
theorem shaped_good {most : Int} (l : List Int) (hm : 0 < most ∧ most ≤ 64) : validR (shapedP l most) = true ∧ (shapedP l most).size ≤ 49 := by
  obtain ⟨h1, h2⟩ := shpN_good (l := l) hm (min l.length 16)
  have h3 : min l.length 16 ≤ 16 := Nat.min_le_right _ _
  unfold shapedP shpE
  split
  · exact ⟨h1 _ (kid_mem (by omega)), by have := size_mem (kid_mem (l := shpN most l (min l.length 16)) (i := 0) (by omega)); omega⟩
  · refine ⟨?_, by rw [size_mk, List.length_nil]; omega⟩
    rw [validR_34 (r := .mk 3 [] (shpN most l (min l.length 16))) (.inl rfl)]
    show (true && !(List.any _ _)) = true
    rw [Bool.true_and, Bool.not_eq_true', List.any_eq_false]
    exact fun x hx => by rw [h1 x hx]; decide
end Go.Wb

namespace Go.Am
open Go.RowKit
set_option linter.unusedVariables false
section
variable {P : Program} {w0 : Fr} {M0 : Nat → Prop} {o : Oper} {ρ : Operand → Option SV} {ob : List (Nat × Ob)} {x y z : Operand} {T e : TypeId} {k id off : Nat} {c : Cls} {cs : List SV}
end
end Go.Am

namespace Go.Am
open Go.RowKit
set_option linter.unusedVariables false
section
variable {P : Program} {w0 : Fr} {M0 : Nat → Prop}
def FnM3 (P : Program) (f : FuncId) (n t u : Nat) (T : TypeId) (k v : Nat) (c : Code) : Prop := ∃ fn, P.funcs[f]? = some fn ∧ fn.body = some c ∧ fn.ntmps = n ∧ fn.results = #[.tmp t, .cell u T, .tmp v] ∧ (fn.name == "runtime.NumGoroutine") = false ∧ isAggOf P T = some true ∧ szOf P T = some k
theorem FnM3.callable {f n t u v k : Nat} {T : TypeId} {c : Code} (h : FnM3 P f n t u T k v c) : Callable P f := by
  obtain ⟨fn, h1, h2, _, _, h5, _⟩ := h
  exact ⟨fn, h1, h5, by rw [h2]; rfl⟩
def endM3 (t u k v : Nat) (r r' r'' : AV) (o' : List (Nat × Ob)) : Exit → St → Prop
  | .normal, s | .ret, s => (s.s.lookup t = some (.v .pl r) ∧ (s.s.lookup u).bind (boxV s.o k) = some (.v .pl r') ∧ s.s.lookup v = some (.v .pl r'')) ∧ ∀ id ob, o'.lookup id = some ob → s.o.lookup id = some ob
  | _, _ => False
end
end Go.Am

namespace Go.Am
open Go.RowKit
set_option linter.unusedVariables false
section
variable {P : Program} {w0 : Fr} {M0 : Nat → Prop} {ops : Array Oper} {Q : St → Prop}
def midOkS (ops : Array Oper) (n k a : Nat) : Bool := (List.range k).all fun i => match ops[i]? with
  | none => false
  | some o => o.guard.isNone && (match o.dst with | some t => !(Nat.beq i a) && Nat.blt t n | none => Nat.beq i a) &&
    (List.range k).all fun j => match (ops[j]?).bind (·.dst) with
      | some u => !(looks ops o).contains u || (preds o).contains j
      | none => true
end
end Go.Am

namespace Go.Am
open Go.RowKit
set_option linter.unusedVariables false
section
variable {P : Program} {w0 : Fr} {M0 : Nat → Prop}
theorem pure_or {o : Oper} {ρ : Operand → Option SV} {ob : List (Nat × Ob)} {x y : Operand} {T T' : TypeId} {k : IntKind} {a b : Int} (ho : o.op = .binOp .or T x y T') (hx : scal ρ x = some (.int k a)) (hy : scal ρ y = some (.int k b)) : Pure P w0 M0 o ρ ob (.v .pl (.sc (.int k (k.wrap ((BitVec.ofInt k.bits a ||| BitVec.ofInt k.bits b).toNat : Nat))))) :=
  pure_bin ho hx hy rfl rfl (fun w => by simp only [binOp_or, Op.intBits, Sem.run_pure])
theorem run_append_str_at (w : World) (base : Nat) (t u ty e : TypeId) (i : TypeInfo) (ht : P.underlying t = some (.slice e)) (hu : P.underlying u = some .string) (hi : P.info? e = some i) (hz : i.zero = some (.int .u8 0))
    (hsize : i.size = 1) (hby : i.bytes = 1) (v : Value) (n : Nat) (xs : List Value) (hown : w.ownsRow base e 1 v n xs) (l : List UInt8) (h63 : n + l.length ≤ maxLen) (hbytes : n + l.length ≤ 140737488355328) (hbase : base ≤ w.heap.size) :
    ∃ v' w', (Builtin.append_ #[t, u] ty #[v, .string ⟨l.toArray⟩]).run P w = .ok v' w' ∧ w'.ownsRow base e 1 v' (n + l.length) (xs ++ l.map fun c => Value.int .u8 c.toNat) ∧ w.grownBy w' v.ownBlock ∧ (v'.ownBlock = v.ownBlock ∨ v'.ownBlock = some w.heap.size) := by
  have hs : (⟨l.toArray⟩ : ByteArray).size = l.length := by show l.toArray.size = _; simp
  have hst : Lib.strCells ⟨l.toArray⟩ = l.map fun c => Value.int .u8 c.toNat := by simp [Lib.strCells]
  obtain ⟨v', w', h1, h2, h3, h4⟩ := Lib.run_append_own_string (P := P) w base t u ty e i ht hu hi hz hsize hby v n xs hown ⟨l.toArray⟩ (by rw [hs]; exact h63) (by rw [hs]; exact hbytes) hbase
  rw [hs, hst] at h2
  refine ⟨v', w', h1, h2, h3, ?_⟩
  have small : n + l.length ≤ 9223372036854775807 := by omega
  rcases hown.2 with ⟨rfl, rfl⟩ | ⟨g, cap, cur, rfl, hbg, hg, hnc, hcm, hcs, htake⟩
  · by_cases h0 : l.length = 0
    · have := h4.2 ⟨rfl, by rw [hs]; exact h0⟩
      rw [this]; exact .inl rfl
    · have hr := run_append_nil_string (P := P) w t u ty e i (.int .u8 0) ht hu hi hz ⟨l.toArray⟩ (by rw [hs]; omega) (by rw [hs]; omega) (by rw [hs, hby]; omega)
      rw [h1] at hr
      injection hr with hv _
      rw [hv]; exact .inr rfl
  · by_cases hroom : n + l.length ≤ cap
    · have h9 : cur.size = cap := by simpa using hcs
      have hr := Lib.run_append_room_string (P := P) w t u ty e i ht hu hi hsize g n cap cur hg ⟨l.toArray⟩ (by rw [hs]; exact hroom) (by rw [hs]; omega)
      rw [h1] at hr
      injection hr with hv _
      rw [hv]; exact .inl rfl
    · have holds : ∀ j u, xs[j]? = some u → w.cell? ((⟨g, 0, none⟩ : Addr).add j) = some u := hown.cells (g := g) rfl
      have hr := Lib.run_append_grow_string (P := P) w t u ty e i (.int .u8 0) ht hu hi hz ⟨g, 0, none⟩ n cap xs (by rw [hsize]; exact hown.1) holds ⟨l.toArray⟩ (by rw [hs]; omega) (by rw [hs]; omega) (by rw [hby]; exact growslice_fits (by omega) (by rw [hs]; omega))
      rw [h1] at hr
      injection hr with hv _
      rw [hv]; exact .inr rfl
variable {o : Oper} {s : St} {x y : Operand} {T U e : TypeId} {t id : Nat} {xs : List AV} {l : List UInt8}
set_option maxHeartbeats 1000000 in
theorem step_append_str (ho : o.op = .call { callee := .builtin .append, args := #[x, y], argTypes := #[T, U] }) (hd : o.dst = some t) (hn : Nat.blt t s.n = true) (hnd : Nodup s.s = true)
    (hT : P.underlying T = some (.slice e)) (hU : P.underlying U = some .string) (hel : elOk P e 1 1 = true) (hz0 : (P.info? e).bind (·.zero) = some (.int .u8 0)) (hx : s.ev x = some (.own id)) (hl : s.o.lookup id = some (.arr e xs)) (hM0 : ∀ b, M0 b → b < w0.w.heap.size)
    (hy : scal s.ev y = some (.string ⟨l.toArray⟩)) (hm : xs.length + l.length ≤ 140737488355328) : Step P w0 M0 o s ((s.upd true id (.arr e (xs ++ l.map (fun c => byteI c.toNat)))).put t (.own id)) := by
  rintro a w Q ⟨E, hs⟩
  obtain ⟨i, z, hi, hz, hsz, hby, hzs, hk0, hck⟩ := elOk_spec hel
  obtain ⟨vals0, ⟨hown, hownF⟩, hxk, hxr⟩ := hs.wok.objs id _ hl
  have hev : a.eval y = .string ⟨l.toArray⟩ := scal_ok (ρ := s.ev) (ob := s.o) (fun x e hx => hs.ev hx) hy
  have hex := hs.ev hx e xs hl
  rw [hck] at hown hxk
  rw [hi] at hz0
  have hz0' : i.zero = some (.int .u8 0) := hz0
  obtain ⟨v', w', hrun, hown', hg, hblk⟩ := run_append_str_at (P := P) w 0 T U o.type e i hT hU hi hz0' hsz hby (E.cur id) xs.length vals0 hown l (by simp only [maxLen]; omega) (by omega) (Nat.zero_le _)
  generalize hvals : (l.map fun c => Value.int .u8 c.toNat) = vals at hown'
  generalize hys : (l.map fun c => byteI c.toNat) = ys
  have hyn : ys.length = l.length := by rw [← hys, List.length_map]
  have hvl : vals.length = l.length * 1 := by rw [← hvals, List.length_map, Nat.mul_one]
  have hyk : ∀ x ∈ ys, (AV.cells x).length = 1 := fun x hx => by rw [← hys] at hx; obtain ⟨c, _, rfl⟩ := List.mem_map.1 hx; rfl
  have hyr : ∀ (j : Nat) d, (flat ys)[j]? = some d → AV.leaf d = true ∧ Rep w (clsM M0 (owned E s.o) .pl) (vals.getD j undef) d := fun j d hd => by
    rw [← hys, flat_sc (fun c : UInt8 => Value.int .u8 c.toNat), List.getElem?_map, Option.map_eq_some_iff] at hd
    obtain ⟨c, hc, rfl⟩ := hd
    have ev : vals.getD j undef = Value.int .u8 c.toNat := by rw [← hvals, List.getD_eq_getElem?_getD, List.getElem?_map, hc]; rfl
    rw [ev]; exact ⟨rfl, .sc _ rfl⟩
  unfold Oper.wp
  have hexec : (execOp a.eval o).run P w = .ok (.value v') w' := by
    simp [execOp, ho, resolve, invoke, builtin, hex, hev, hrun]
  rw [hexec]
  simp only [Oper.upon, hd]
  refine ⟨{ E with cur := fun i => if i = id then v' else E.cur i }, SimE.put ?_ (by simpa [St.upd] using hn) sv_own_new⟩
  refine hs.upd true (fun h => by cases h) hnd hM0 (fun j hj => ⟨by simp [hj], rfl⟩) (.inr rfl) (E.cur id).ownBlock hg (fun _ => run_drawn _ _ _ _ hrun) (fun g hg => ⟨_, hl, hg⟩) (fun b hb => ?_) (fun rep _ => ?_)
  · simp only [ownB, if_true] at hb
    rcases hblk with h1 | h1
    · exact .inl ⟨_, hl, by rw [h1] at hb; exact hb⟩
    · rw [h1] at hb; simp only [Option.some.injEq] at hb; exact .inr (by omega)
  · have hfx := flat_length xs hxk
    refine ⟨vals0 ++ vals, ?_, ?_, fun j d hd => ?_⟩
    · refine ⟨by simp only [if_true, hck, List.length_append, hyn]; exact hown', fun b hb => ?_⟩
      simp only [if_true] at hb
      rcases hblk with h1 | h1
      · exact hownF b (h1 ▸ hb)
      · rw [h1] at hb; simp only [Option.some.injEq] at hb; exact hs.wok.new_free hM0 (by omega)
    · rw [hck]; intro u hu
      rcases List.mem_append.1 hu with h | h
      · exact hxk u h
      · exact hyk u h
    · have hl0 : vals0.length = (flat xs).length := by rw [hfx, hown.1]
      rw [flat_append] at hd
      rcases Nat.lt_or_ge j (flat xs).length with hj | hj
      · rw [List.getElem?_append_left hj] at hd
        have := hxr j d hd
        refine ⟨this.1, ?_⟩
        rw [List.getD_eq_getElem?_getD, List.getElem?_append_left (by omega), ← List.getD_eq_getElem?_getD]
        exact rep .pl _ _ this.2 (by simp)
      · rw [List.getElem?_append_right hj] at hd
        have := hyr _ d hd
        refine ⟨this.1, ?_⟩
        rw [List.getD_eq_getElem?_getD, List.getElem?_append_right (by omega), hl0, ← List.getD_eq_getElem?_getD]
        exact rep .pl _ _ this.2 (by simp)

end
end Go.Am

namespace Go.Wc
set_option linter.unusedVariables false
open Go.Am
def kvalI (n : Int) : Nat := if n = 0 then 0 else if n < 256 then 1 else 2
def wbB (n : Int) : List Int := if n = 0 then [] else if n < 256 then [n] else [n / 256, n % 256]
def wbE (n : Int) : List Int := (128 + (kvalI n : Int)) :: wbB n
theorem kvalI_le (n : Int) : kvalI n ≤ 2 := by unfold kvalI; (repeat' split) <;> omega
theorem wbB_len (n : Int) : (wbB n).length = kvalI n := by unfold wbB kvalI; (repeat' split) <;> rfl
theorem wbE_len (n : Int) : (wbE n).length ≤ 3 := by
  have := kvalI_le n
  unfold wbE; simp only [List.length_cons, wbB_len]; omega
theorem u64_id {n : Int} (h : 0 ≤ n ∧ n < 65536) : IntKind.u64.wrap n = n := by
  simp only [IntKind.wrap, IntKind.bits, IntKind.signed]
  first | (simp; omega) | omega
theorem u8_wrap (n : Int) : IntKind.u8.wrap n = n % 256 := by
  simp only [IntKind.wrap, IntKind.bits, IntKind.signed]
  first | rfl | (simp; omega) | omega
theorem shr_val {n : Int} (h : 0 ≤ n ∧ n < 65536) {k : Nat} (hk : k < 8) : n.fdiv (2 ^ (min ((8 * (k : Int)).toNat) IntKind.u64.bits)) = if k = 0 then n else if k = 1 then n / 256 else 0 := by
  match k, hk with
  | 0, _ => show n.fdiv 1 = n; simp
  | 1, _ => show n.fdiv 256 = n / 256; exact Int.fdiv_eq_ediv_of_nonneg _ (by decide)
  | 2, _ => show n.fdiv 65536 = 0; rw [Int.fdiv_eq_ediv_of_nonneg _ (by decide)]; omega
  | 3, _ => show n.fdiv 16777216 = 0; rw [Int.fdiv_eq_ediv_of_nonneg _ (by decide)]; omega
  | 4, _ => show n.fdiv 4294967296 = 0; rw [Int.fdiv_eq_ediv_of_nonneg _ (by decide)]; omega
  | 5, _ => show n.fdiv 1099511627776 = 0; rw [Int.fdiv_eq_ediv_of_nonneg _ (by decide)]; omega
  | 6, _ => show n.fdiv 281474976710656 = 0; rw [Int.fdiv_eq_ediv_of_nonneg _ (by decide)]; omega
  | 7, _ => show n.fdiv 72057594037927936 = 0; rw [Int.fdiv_eq_ediv_of_nonneg _ (by decide)]; omega
theorem shr_pos {n : Int} (h : 0 ≤ n ∧ n < 65536) {k : Nat} (hk : 1 ≤ k ∧ k ≤ 8) : 0 < n.fdiv (2 ^ (min ((8 * ((k : Int) - 1)).toNat) IntKind.u64.bits)) ↔ k ≤ kvalI n := by
  have h1 := shr_val h (k := k - 1) (by omega)
  rw [show ((k - 1 : Nat) : Int) = (k : Int) - 1 by omega] at h1
  rw [h1]
  unfold kvalI
  (repeat' split) <;> omega
theorem shr_byte {n : Int} (h : 0 ≤ n ∧ n < 65536) {j k : Nat} (hk : k = kvalI n) (hj : j < k) : IntKind.u8.wrap (n.fdiv (2 ^ (min ((8 * ((k : Int) - 1 - j)).toNat) IntKind.u64.bits))) = (wbB n).getD j default := by
  have hk2 := kvalI_le n
  have h1 := shr_val h (k := k - 1 - j) (by omega)
  rw [show ((k - 1 - j : Nat) : Int) = (k : Int) - 1 - j by omega] at h1
  rw [h1, u8_wrap]
  unfold kvalI at hk
  unfold wbB
  by_cases h0 : n = 0
  · rw [if_pos h0] at hk; omega
  · rw [if_neg h0] at hk ⊢
    by_cases h2 : n < 256
    · rw [if_pos h2] at hk ⊢
      obtain rfl : j = 0 := by omega
      subst hk
      simp only [Nat.sub_self, if_true]
      show n % 256 = n
      omega
    · rw [if_neg h2] at hk ⊢
      subst hk
      match j, hj with
      | 0, _ =>
        show (if (1 : Nat) = 0 then n else if (1 : Nat) = 1 then n / 256 else 0) % 256 = n / 256
        rw [if_neg (by decide), if_pos rfl]; omega
      | 1, _ =>
        show (if (0 : Nat) = 0 then n else if (0 : Nat) = 1 then n / 256 else 0) % 256 = n % 256
        rw [if_pos rfl]
theorem wbE_byte {x : Int} (hx : 0 ≤ x ∧ x < 65536) : ∀ b ∈ wbE x, 0 ≤ b ∧ b < 256 := by
  have := kvalI_le x
  unfold wbE wbB
  intro b hb
  rw [List.mem_cons] at hb
  rcases hb with rfl | hb
  · omega
  · split at hb
    · cases hb
    · split at hb <;> simp at hb <;> omega
theorem wbB_get {n : Int} (hn : 0 ≤ n ∧ n < 65536) (j : Nat) : 0 ≤ (wbB n).getD j default ∧ (wbB n).getD j default < 256 := by
  rw [List.getD_eq_getElem?_getD]
  cases hk : (wbB n)[j]? with
  | none => exact ⟨by decide, by decide⟩
  | some x => exact wbE_byte hn x (by unfold wbE; exact List.mem_cons_of_mem _ (List.mem_of_getElem? hk))
abbrev b8 (n : Int) : UInt8 := UInt8.ofNat n.toNat
theorem i64_id {n : Int} (h : 0 ≤ n ∧ n < 65536) : IntKind.i64.wrap n = n := by
  simp only [IntKind.wrap, IntKind.bits, IntKind.signed]
  first | (simp; omega) | omega
def vB (n : Int) (j : Nat) : Int := if j = 0 then 0 else if j = kvalI n then n else n / 256
theorem vB_0 (n : Int) : vB n 0 = 0 := if_pos rfl
theorem vB_k {n : Int} (h : 0 ≤ n ∧ n < 65536) : vB n (kvalI n) = n := by
  unfold vB
  split
  · next q =>
    unfold kvalI at q
    split at q
    · next e => exact e.symm
    · split at q <;> omega
  · rw [if_pos rfl]
theorem vB_bd {n : Int} (h : 0 ≤ n ∧ n < 65536) (j : Nat) : 0 ≤ vB n j ∧ vB n j < 65536 := by
  unfold vB; (repeat' split) <;> omega
theorem vB_step {n : Int} (h : 0 ≤ n ∧ n < 65536) {j : Nat} (hj : j < kvalI n) : vB n j * 256 + (wbB n).getD j default = vB n (j + 1) := by
  have h2 := kvalI_le n
  unfold kvalI at hj h2
  unfold vB wbB kvalI
  split at hj
  · omega
  · next h0 =>
    rw [if_neg h0]
    split at hj
    · next h1 =>
      obtain rfl : j = 0 := by omega
      simp [h0, h1]
    · next h1 =>
      rw [if_neg h1]
      match j, hj with
      | 0, _ => simp [h0, h1]
      | 1, _ => simp [h0, h1]; omega
theorem shl8 {v : Int} (h : 0 ≤ v ∧ v < 65536) : IntKind.u64.wrap (v * 2 ^ (min (Int.toNat 8) IntKind.u64.bits)) = v * 256 := by
  rw [show min (Int.toNat 8) IntKind.u64.bits = 8 from rfl, show (2 : Int) ^ 8 = 256 from rfl]
  simp only [IntKind.wrap, IntKind.bits, IntKind.signed]
  first | (simp; omega) | omega
theorem or8 {v c : Int} (h : 0 ≤ v ∧ v < 65536) (hc : 0 ≤ c ∧ c < 256) : IntKind.u64.wrap ((BitVec.ofInt IntKind.u64.bits (v * 256) ||| BitVec.ofInt IntKind.u64.bits c).toNat : Nat) = v * 256 + c := by
  obtain ⟨v, rfl⟩ := Int.eq_ofNat_of_zero_le h.1
  obtain ⟨c, rfl⟩ := Int.eq_ofNat_of_zero_le hc.1
  have e1 : (BitVec.ofInt IntKind.u64.bits ((v : Int) * 256) ||| BitVec.ofInt IntKind.u64.bits (c : Int)).toNat = v * 256 + c := by
    rw [show ((v : Int) * 256) = ((v * 256 : Nat) : Int) by omega, BitVec.ofInt_natCast, BitVec.ofInt_natCast, BitVec.toNat_or, BitVec.toNat_ofNat, BitVec.toNat_ofNat]
    rw [Nat.mod_eq_of_lt (show v * 256 < 2 ^ IntKind.u64.bits by show v * 256 < 2 ^ 64; omega), Nat.mod_eq_of_lt (show c < 2 ^ IntKind.u64.bits by show c < 2 ^ 64; omega)]
    have := Nat.two_pow_add_eq_or_of_lt (i := 8) (b := c) (by omega) v
    rw [show 2 ^ 8 * v = v * 256 by omega] at this
    exact this.symm
  rw [e1]
  simp only [IntKind.wrap, IntKind.bits, IntKind.signed]
  first | (simp; omega) | omega
theorem shr63 {n : Int} (h : 0 ≤ n ∧ n < 65536) : n.fdiv (2 ^ (min (Int.toNat 63) IntKind.u64.bits)) = 0 := by
  rw [show min (Int.toNat 63) IntKind.u64.bits = 63 from rfl, Int.fdiv_eq_ediv_of_nonneg _ (by decide)]; omega
theorem wbE_full (n : Int) (rest : List Int) : (wbE n ++ rest).length = 1 + kvalI n + rest.length := by
  unfold wbE; simp only [List.length_append, List.length_cons, wbB_len]; omega
theorem wbE_1 {n : Int} {rest : List Int} (h : 0 < kvalI n) : (wbE n ++ rest).getD 1 default = (wbB n).getD 0 default := by
  have := wbB_len n
  unfold wbE
  show (wbB n ++ rest).getD 0 default = _
  rw [List.getD_eq_getElem?_getD, List.getElem?_append_left (by omega), ← List.getD_eq_getElem?_getD]
theorem wbB_0 {n : Int} (h : 0 ≤ n ∧ n < 65536) (hk : 0 < kvalI n) : (wbB n).getD 0 default ≠ 0 := by
  unfold kvalI at hk
  unfold wbB
  split at hk
  · omega
  · next h0 =>
    rw [if_neg h0]
    split
    · show n ≠ 0; exact h0
    · show n / 256 ≠ 0; omega
theorem wbE_mid (n : Int) (rest : List Int) : (((wbE n ++ rest).map byteI).drop 1).take (kvalI n) = (wbB n).map byteI := by
  unfold wbE
  show (((wbB n ++ rest).map byteI)).take (kvalI n) = _
  rw [List.map_append, List.take_left' (by rw [List.length_map, wbB_len])]
end Go.Wc

namespace Go.Wb
set_option linter.unusedVariables false
set_option linter.unusedSimpArgs false
open Go.Am
def sufs : List Int → List (List Int)
  | [] => [[]]
  | a :: v => (a :: v) :: sufs v
def sufp : List Int → List (List Int)
  | [] => []
  | a :: v => (a :: v) :: sufp v
def Dv (x : Rx) (v : List Int) : Rx := v.foldl (fun t b => dR b t) x
def als (t : Rx) : List Rx := (altF t).filter fun a => decide (3 ≤ a.kind)
def stp (b : Int) : List Rx → List (List Rx)
  | [] => []
  | x :: l => if (dR b x).kind = 0 then stp b l else (seqF (dR b x) ++ l) :: stp b l
def cv (x : Rx) (u : List Int) (T : List (List Rx)) : List (List Rx) := if x.kind = 5 then T else seqF (Dv x u) :: T
mutual
def covT : Rx → List Int → List (List Rx)
  | .mk k s l, v => if k = 4 then covA l v else if k = 3 then covQ l v else if k = 5 then [.mk k s l] :: covS l v (.mk k s l) else []
def covA : List Rx → List Int → List (List Rx)
  | [], _ => []
  | x :: l, v => covT x v ++ covA l v
def covQ : List Rx → List Int → List (List Rx)
  | [], _ => []
  | x :: l, v => (sufs v).flatMap (fun u => (cv x u (covT x u)).map (· ++ l)) ++ covQ l v
def covS : List Rx → List Int → Rx → List (List Rx)
  | [], _, _ => []
  | x :: _, v, r => (sufp v).flatMap fun u => (cv x u (covT x u)).map (· ++ [r])
end
structure Cov (x : Rx) : Prop where
  base : ∀ a ∈ als x, seqF a ∈ covT x []
  exp : ∀ v z, [z] ∈ covT x v → z.kind = 4 → ∀ a ∈ als z, seqF a ∈ covT x v
  step : ∀ v b L L', L ∈ covT x v → L' ∈ stp b L → L' ∈ covT x (v ++ [b])
  all : ∀ v a, a ∈ als (Dv x v) → seqF a ∈ covT x v
end Go.Wb

