/-
  Functions of two results,of none;small lemmas for walks.
-/
import Derived.Test.YtgdehkimfmfofaaGreatJ6
import Derived.Lib.SmallJoins
set_option linter.unusedVariables false
set_option linter.unusedSectionVars false
set_option linter.unusedSimpArgs false
namespace Go.Am
open Go.RowKit

abbrev sbytes (l:List UInt8):AV:=.sc (.string ⟨l.toArray⟩)
section
variable {P:Program} {w0:Fr} {M0:Nat→Prop}
variable {o:Oper} {ρ:Operand→Option SV} {ob:List (Nat×Ob)} {d:SV} {x y z:Operand} {T T' e:TypeId} {k b:Nat} {c:Cls} {id off:Nat} {s:St} {t:Nat} {xs:List AV} {l l':List UInt8}

theorem pure_not {q:Bool} (ho:o.op=.unOp .not T x) (hx:scal ρ x=some (.bool q)):Pure P w0 M0 o ρ ob (.v .pl (.sc (.bool (!q)))) :=
  pure_scal rfl fun w ev h=>by simp [execOp,ho,h x _ hx,Op.unary]
theorem pure_neg {n:Int} (ho:o.op=.unOp .neg T x) (hx:scal ρ x=some (.int .i64 n)) (h:-9223372036854775808≤-n∧-n≤9223372036854775807):Pure P w0 M0 o ρ ob (.v .pl (int (-n))) :=
  pure_scal rfl fun w ev h'=>by
    have hw:=wrap64 (x:=0-n) (by omega) (by omega)
    simp [execOp,ho,h' x _ hx,Op.unary,Op.intArith]
    simpa using hw
theorem pure_conv {k k':IntKind} {n:Int} {ds:TypeDesc} (ho:o.op=.convert T T' x) (hs:P.underlying T=some ds) (hd:P.underlying T'=some (.int k')) (hx:scal ρ x=some (.int k n)):Pure P w0 M0 o ρ ob (.v .pl (.sc (.int k' (k'.wrap n)))) :=
  pure_scal rfl fun w ev h'=>by
    have:P.intKind T'=k':=by simp [Program.intKind,hd]
    have hr:=run_convert_int (P:=P) (w:=w) T T' k n (by rw [hs];rfl) (by rw [this];exact hd)
    rw [this] at hr
    simp [execOp,ho,h' x _ hx,hr]
theorem pure_beq {p q:Bool} (hT:P.underlying T=some .bool) (ho:o.op=.binOp .eql T x y T') (hx:scal ρ x=some (.bool p)) (hy:scal ρ y=some (.bool q)):Pure P w0 M0 o ρ ob (.v .pl (.sc (.bool (p == q)))) :=
  pure_bin ho hx hy rfl (by simp [go_sem]) (fun w=>run_eql_bool (P:=P) (w:=w) T p q hT)
theorem pure_bne {p q:Bool} (hT:P.underlying T=some .bool) (ho:o.op=.binOp .neq T x y T') (hx:scal ρ x=some (.bool p)) (hy:scal ρ y=some (.bool q)):Pure P w0 M0 o ρ ob (.v .pl (.sc (.bool (!(p == q))))) :=
  pure_bin ho hx hy rfl (by simp [go_sem]) (fun w=>by have:=run_neq_bool (P:=P) (w:=w) T p q hT;simpa [bne] using this)

theorem pure_seql (ho:o.op=.binOp .eql T x y T') (hx:scal ρ x=some (.string ⟨l.toArray⟩)) (hy:scal ρ y=some (.string ⟨l'.toArray⟩)):Pure P w0 M0 o ρ ob (.v .pl (.sc (.bool (decide (l=l'))))) :=
  pure_bin ho hx hy rfl (by simp [go_sem]) (fun w=>by
    simp only [binOp,Op.stringOp,ByteArray.toList_eq,Sem.run_pure]
    congr 2;rw [Bool.eq_iff_iff];simp)
theorem pure_sneq (ho:o.op=.binOp .neq T x y T') (hx:scal ρ x=some (.string ⟨l.toArray⟩)) (hy:scal ρ y=some (.string ⟨l'.toArray⟩)):Pure P w0 M0 o ρ ob (.v .pl (.sc (.bool (!decide (l=l'))))) :=
  pure_bin ho hx hy rfl (by simp [go_sem]) (fun w=>by
    simp only [binOp,Op.stringOp,ByteArray.toList_eq,Sem.run_pure]
    congr 3;rw [Bool.eq_iff_iff];simp)
theorem append_mk (l l':List UInt8):(⟨l.toArray⟩:ByteArray)++⟨l'.toArray⟩=⟨(l++l').toArray⟩:=by
  have h:=Go.Joins.data_append ⟨l.toArray⟩ ⟨l'.toArray⟩
  generalize (⟨l.toArray⟩:ByteArray)++⟨l'.toArray⟩=q at h
  obtain ⟨q⟩:=q
  congr 1
  apply Array.ext'
  simpa using h
theorem pure_sadd (ho:o.op=.binOp .add T x y T') (hx:scal ρ x=some (.string ⟨l.toArray⟩)) (hy:scal ρ y=some (.string ⟨l'.toArray⟩)) (hb:l.length+l'.length≤9223372036854775807):Pure P w0 M0 o ρ ob (.v .pl (sbytes (l++l'))) :=
  pure_bin ho hx hy rfl (by simp [go_sem]) (fun w=>by
    rw [← append_mk]
    have h:=run_string_add_sum (P:=P) (w:=w) ⟨l.toArray⟩ ⟨l'.toArray⟩ (by simpa [ByteArray.size] using hb)
    simpa [binOp] using h)
theorem pure_slen (ho:o.op=.call { callee:=.builtin .len,args:=#[x],argTypes:=#[T] }) (hT:P.underlying T=some .string) (hx:scal ρ x=some (.string ⟨l.toArray⟩)):Pure P w0 M0 o ρ ob (.v .pl (int l.length)):=by
  have:=pure_len_string (P:=P) (w0:=w0) (M0:=M0) (ob:=ob) ho hT hx
  simpa [ByteArray.size] using this
theorem pure_sindex {q:IntKind} {i:Int} (ho:o.op=.index T x y) (hT:P.underlying T=some .string) (hx:scal ρ x=some (.string ⟨l.toArray⟩)) (hy:scal ρ y=some (.int q i)) (h:0≤i∧i<l.length):Pure P w0 M0 o ρ ob (.v .pl (.sc (.int .u8 (l.getD i.toNat 0).toNat))) :=
  pure_scal rfl fun w ev h'=>by
    have hsz:(⟨l.toArray⟩:ByteArray).size=l.length:=by simp [ByteArray.size]
    have hr:=run_index_string (P:=P) (w:=w) T ⟨l.toArray⟩ q i hT
    rw [dif_pos (by rw [hsz];exact h)] at hr
    have e1:(⟨l.toArray⟩:ByteArray)[i.toNat]'(by rw [hsz];omega)=l.getD i.toNat 0:=by
      rw [List.getD_eq_getElem?_getD,List.getElem?_eq_getElem (by omega)];rfl
    simp only [execOp,ho,h' x _ hx,h' y _ hy,Sem.run_bind,hr,Result.andThen_ok,Sem.run_pure,e1]
theorem extract_mk (l:List UInt8) (i j:Nat):(⟨l.toArray⟩:ByteArray).extract i j=⟨((l.drop i).take (j-i)).toArray⟩:=by
  have h:=Lib.extract_toList ⟨l.toArray⟩ i j
  rw [ByteArray.toList_eq] at h
  generalize (⟨l.toArray⟩:ByteArray).extract i j=q at h
  obtain ⟨q⟩:=q
  congr 1
  apply Array.ext'
  simpa using h
theorem pure_sslice_h {q':IntKind} {j:Int} (ho:o.op=.slice T x none (some z) none) (hT:P.underlying T=some .string) (hx:scal ρ x=some (.string ⟨l.toArray⟩)) (hz:scal ρ z=some (.int q' j)) (h:0≤j∧j≤l.length) :
    Pure P w0 M0 o ρ ob (.v .pl (sbytes (l.take j.toNat))) :=
  pure_scal rfl fun w ev h'=>by
    have hsz:(⟨l.toArray⟩:ByteArray).size=l.length:=by simp [ByteArray.size]
    have hr:=run_slice_string_h (P:=P) (w:=w) (t:=T) (s:=⟨l.toArray⟩) hT q' j (by omega) (by rw [hsz];omega)
    rw [extract_mk] at hr
    simp only [List.drop_zero,Nat.sub_zero] at hr
    simp only [execOp,ho,h' x _ hx,h' z _ hz,Option.map_some,Option.map_none,Sem.run_bind,run_sliceAt_string (P:=P) (w:=w) T _ _ _ _ hT,hr,Result.andThen_ok,Sem.run_pure]
theorem pure_sslice_l {q:IntKind} {i:Int} (ho:o.op=.slice T x (some y) none none) (hT:P.underlying T=some .string) (hx:scal ρ x=some (.string ⟨l.toArray⟩)) (hy:scal ρ y=some (.int q i)) (h:0≤i∧i≤l.length) :
    Pure P w0 M0 o ρ ob (.v .pl (sbytes (l.drop i.toNat))) :=
  pure_scal rfl fun w ev h'=>by
    have hsz:(⟨l.toArray⟩:ByteArray).size=l.length:=by simp [ByteArray.size]
    have hr:=run_slice_string_l (P:=P) (w:=w) (t:=T) (s:=⟨l.toArray⟩) hT q i (by omega) (by rw [hsz];omega)
    rw [extract_mk,hsz,List.take_of_length_le (by simp)] at hr
    simp only [execOp,ho,h' x _ hx,h' y _ hy,Option.map_some,Option.map_none,Sem.run_bind,run_sliceAt_string (P:=P) (w:=w) T _ _ _ _ hT,hr,Result.andThen_ok,Sem.run_pure]

theorem Rep.part {w : World} {M : Nat → Prop} {a : Option Addr} {n cap : Nat} {i j : Nat} (hr : Rep w M (.slice a n cap) (.sl xs)) (hk : szOf P e = some k) (hxk : ∀ v ∈ xs, (AV.cells v).length = k) (hij : i ≤ j) (hj : j ≤ n) :
    Rep w M (sliced a i j cap k) (.sl ((xs.drop i).take (j-i))):=by
  cases hr with
  | sl a n cap xs k' cv hn hc hk' hb hl hr =>
    have hflat:∀ (q:Nat) d,(flat ((xs.drop i).take (j-i)))[q]?=some d→(flat xs)[i*k'+q]?=some d:=by
      intro q d hd
      have e1:xs=xs.take i++((xs.drop i).take (j-i)++(xs.drop i).drop (j-i)):=by rw [List.take_append_drop,List.take_append_drop]
      have hlen:(flat (xs.take i)).length=i*k':=by
        rw [flat_length (xs.take i) (fun v hv=>hk' v (List.mem_of_mem_take hv)),List.length_take,Nat.min_eq_left (by omega)]
      rw [e1,flat_append,flat_append,List.getElem?_append_right (by omega),hlen,Nat.add_sub_cancel_left,List.getElem?_append_left (List.getElem?_eq_some_iff.1 hd).1]
      exact hd
    unfold sliced
    refine .sl _ _ _ _ k' (fun q=>cv (i*k'+q)) (by simp;omega) (by omega) (fun v hv=>hk' v (List.mem_of_mem_drop (List.mem_of_mem_take hv))) (fun h0=>?_) (fun q d hd=>hl _ d (hflat q d hd)) (fun q d hd=>hr _ d (hflat q d hd))
    have h0':0<j-i:=h0
    have hn0:0<n:=by omega
    have hkk:k=k':=by
      cases xs with
      | nil =>
        have:n=0:=by simpa using hn.symm
        omega
      | cons v r=>rw [← hk' v List.mem_cons_self,hxk v List.mem_cons_self]
    subst hkk
    obtain ⟨bl,of,rfl,h1,h2,h3⟩:=hb hn0
    refine ⟨bl,of+i*k,?_,h1,h2,fun q hq=>?_⟩
    · have hne : ¬ cap = i := by
        have hji:0<j-i:=h0
        omega
      rw [if_neg hne];simp [Addr.add_lit]
    · have hle : i * k + (j - i) * k ≤ n * k := by rw [← Nat.add_mul]; exact Nat.mul_le_mul_right _ (by omega)
      have hlt:i*k+q<n*k:=by omega
      have:=h3 (i*k+q) hlt
      have e1:of+i*k+q=of+(i*k+q):=by omega
      rw [e1];exact this
theorem pure_slice_h {q':IntKind} {j:Int} (ho:o.op=.slice T x none (some z) none) (hT:P.underlying T=some (.slice e)) (hk:szOf P e=some k) (hx:viewAt ρ ob x=some (c,.sl xs)) (hz:scal ρ z=some (.int q' j)) (h:0≤j∧j≤xs.length) (hxk:∀ v∈xs,(AV.cells v).length=k) :
    Pure P w0 M0 o ρ ob (.v c (.sl (xs.take j.toNat))) :=
  pure_value fun E w ev hw hh=>by
    have hr:=viewAt_ok hw hh hx
    have hz':=scal_ok hh hz
    generalize hq:ev x=u at hr
    have hu:∃ a n cap,u=.slice a n cap∧xs.length=n∧n≤cap:=by
      cases hr with
      | sl a n cap _ k cv hn hc _ _ _ _=>exact ⟨a,n,cap,rfl,hn,hc⟩
    obtain ⟨a,n,cap,rfl,hn,hc⟩:=hu
    have hel:P.elem T=e:=by simp [Program.elem,hT]
    have hrun:(Instr.slice T (.slice a n cap) none (some (.int q' j)) none).run P w=.ok (sliced a 0 j.toNat cap k) w:=by
      have hj:0≤j∧j≤(cap:Int):=by omega
      simp [Instr.slice,run_underlying hT,Instr.sliceBounds,run_sliceBound,hj,run_size hk,sliced]
    have:=hr.part hk hxk (Nat.zero_le j.toNat) (by omega)
    simp only [List.drop_zero,Nat.sub_zero] at this
    refine ⟨_,w,?_,.refl _ _,this⟩
    simp only [execOp,ho,hq,hz',Option.map_some,Option.map_none,Sem.run_bind,run_sliceAt_slice (P:=P) (w:=w) T _ _ _ _ (by rw [hel];exact hT),hrun,Result.andThen_ok,Sem.run_pure]

def capsView (ρ : Operand → Option SV) (ob : List (Nat × Ob)) : List Operand → Option (Cls × List AV)
  | []=>some (.pl,[])
  | x :: r => match viewAt ρ ob x, capsView ρ ob r with
    | some (c,d),some (c',ds)=>some (c.max c',d :: ds)
    | _,_=>none
theorem capsView_ok {E : Env} {w : World} {ev : Operand → Value} (hw : WOk P w0 M0 E ob w) (h : ∀ x e, ρ x = some e → SVok P M0 w E ob (ev x) e) : ∀ (xs : List Operand) (c : Cls) (ds : List AV), capsView ρ ob xs = some (c, ds) →
    xs.length=ds.length∧∀ (j:Nat) d,ds[j]?=some d→Rep w (clsM M0 (owned E ob) c) ((xs.map ev).getD j undef) d
  | [], c, ds, hd => by
    simp only [capsView,Option.some.injEq,Prod.mk.injEq] at hd
    obtain ⟨rfl,rfl⟩:=hd
    exact ⟨rfl,fun j d hd=>by simp at hd⟩
  | x :: r, c, ds, hd => by
    unfold capsView at hd
    split at hd
    · rename_i c1 d1 c2 ds2 h1 h2
      simp only [Option.some.injEq,Prod.mk.injEq] at hd
      obtain ⟨rfl,rfl⟩:=hd
      have ih:=capsView_ok hw h r c2 ds2 h2
      refine ⟨by simp [ih.1],fun j d hd=>?_⟩
      cases j with
      | zero =>
        simp only [List.getElem?_cons_zero,Option.some.injEq] at hd
        subst hd
        exact (viewAt_ok hw h h1).weak (clsM_max1 c1 c2)
      | succ j=>exact (ih.2 j d (by simpa using hd)).weak (clsM_max2 c1 c2)
    · cases hd
theorem pure_func {f:FuncId} {caps:Array Operand} {ds:List AV} (ho:o.op=.makeFunc (.func f) #[] caps) (hc:capsView ρ ob caps.toList=some (c,ds)):Pure P w0 M0 o ρ ob (.v c (.clo f ds)) :=
  pure_value fun E w ev hw h=>by
    obtain ⟨g1,g2⟩:=capsView_ok hw h _ c ds hc
    refine ⟨.func (.func f) #[] (caps.toList.map ev).toArray,w,?_,.refl _ _,.clo f _ _ (by simpa using g1) g2⟩
    simp [execOp,ho,Instr.makeFunc]
    try (apply Array.ext';simp)
theorem pure_fieldv {f fo fk : Nat} {as : List AV} {a0 : AV} (ho : o.op = .field T x f) (hT : fldOf P T f = some (fo, fk + 1, false)) (hx : viewAt ρ ob x = some (c, .agg as)) (ha : as[fo]? = some a0) : Pure P w0 M0 o ρ ob (.v c a0) :=
  pure_value fun E w ev hw h=>by
    have hr:=viewAt_ok hw h hx
    generalize hq:ev x=u at hr
    cases hr with
    | agg vs _ hn hl hr =>
      have hlt:fo<vs.length:=by rw [hn];exact (List.getElem?_eq_some_iff.1 ha).1
      have:=hr fo a0 ha
      rw [List.getD_eq_getElem?_getD,List.getElem?_eq_getElem hlt] at this
      refine ⟨vs[fo],w,?_,.refl _ _,this⟩
      unfold fldOf at hT
      split at hT
      · rename_i fs hs
        cases hf:fs[f]? with
        | none=>rw [hf] at hT;cases hT
        | some fd =>
          rw [hf] at hT
          simp only [Option.bind_some,Option.bind_eq_some_iff,Option.map_eq_some_iff,Prod.mk.injEq] at hT
          obtain ⟨k1,hk1,g1,hg1,hT1,hT2,hT3⟩:=hT
          subst hT1;subst hT3
          simp [execOp,ho,hq,Instr.field,run_underlying hs,hf,part,run_isAggOf hg1,asAgg,hlt]
      · cases hT
theorem step_make {u:Value} {n:Int} {q q':IntKind} (ho:o.op=.makeSlice T x y) (hd:o.dst=some t) (hn:Nat.blt t s.n=true) (hnd:Nodup s.s=true) (hT:P.underlying T=some (.slice e)) (hel:elOk P e 1 b=true) (hz:zeroOf P e=some [u]) (hu:u.oneCell'=true)
    (hx:scal s.ev x=some (.int q n)) (hy:scal s.ev y=some (.int q' n)) (h0:0≤n) (hb:b*n.toNat≤281474976710656) (hm:n≤4611686018427387904) (hM0:∀ b,M0 b→b<w0.w.heap.size):Step P w0 M0 o s ((s.upd true t (.arr e (List.replicate n.toNat (.sc u)))).put t (.own t)):=by
  rintro a w Q ⟨E,hs⟩
  obtain ⟨i,zz,hi,hzz,hsz,hby,hzs,hk0,hck⟩:=elOk_spec hel
  have hzc:zz.cells.toList=[u]:=by
    unfold zeroOf at hz
    rw [hi] at hz
    simp only [Option.bind_some,hzz,Option.map_some,Option.some.injEq] at hz
    exact hz
  have hx':a.eval x=.int q n:=scal_ok (ρ:=s.ev) (x:=x) (ob:=s.o) (ev:=a.eval) (fun x e hx=>hs.ev hx) hx
  have hy':a.eval y=.int q' n:=scal_ok (ρ:=s.ev) (x:=y) (ob:=s.o) (ev:=a.eval) (fun x e hx=>hs.ev hx) hy
  obtain ⟨w',hrun,hown,hg⟩:=run_make_full (P:=P) w 0 T e i zz 1 hT hi hzz hsz q q' n.toNat (by rw [hby];exact hb) (by simp only [maxLen];omega) (Nat.zero_le _)
  rw [Int.toNat_of_nonneg h0] at hrun
  have hcells:(madeCells zz.cells (n.toNat*1)).toList=List.replicate n.toNat u:=by
    have hzc':zz.cells=#[u]:=by rw [← Array.toList_inj];simpa using hzc
    rw [hzc',Nat.mul_one]
    apply List.ext_getElem?
    intro j
    simp only [madeCells,Array.toList_map,List.getElem?_map,List.getElem?_replicate]
    rcases Nat.lt_or_ge j n.toNat with h|h
    · have hone : j % 1 = 0 := Nat.mod_one j
      simp [h,Nat.mod_one]
    · rw [if_neg (by omega)];simp;omega
  rw [hcells] at hown
  unfold Oper.wp
  have hexec:(execOp a.eval o).run P w=.ok (.value (.slice (some ⟨w.heap.size,0,none⟩) n.toNat n.toNat)) w':=by
    simp only [execOp,ho,hx',hy',Sem.run_bind,hrun,Result.andThen_ok,Sem.run_pure]
  rw [hexec]
  simp only [Oper.upon,hd]
  refine ⟨{ E with cur:=fun i=>if i=t then .slice (some ⟨w.heap.size,0,none⟩) n.toNat n.toNat else E.cur i },SimE.put ?_ (by simpa [St.upd] using hn) sv_own_new⟩
  refine hs.newArr hnd hM0 hg (fun _=>run_drawn _ _ _ _ hrun) (vals:=List.replicate n.toNat u) (by rw [hck,List.length_replicate];exact hown) (fun b hb=>?_) (fun v hv=>by rw [hck,List.eq_of_mem_replicate hv];rfl) (fun j d hd=>?_)
  · simp only [Value.ownBlock,Option.some.injEq] at hb;omega
  · have hfl : flat (List.replicate n.toNat (AV.sc u)) = List.replicate n.toNat (AV.sc u) := by
      generalize n.toNat=m
      induction m with
      | zero=>rfl
      | succ m ih=>simp only [List.replicate_succ,flat,List.flatMap_cons] at ih ⊢;rw [ih];rfl
    rw [hfl,List.getElem?_replicate] at hd
    split at hd
    · rename_i hj
      simp only [Option.some.injEq] at hd
      subst hd
      refine ⟨rfl,.inl ?_⟩
      rw [List.getD_eq_getElem?_getD,List.getElem?_replicate,if_pos hj]
      exact .sc u hu
    · cases hd
end
end Go.Am

namespace Go.Am
open Go.RowKit

theorem mget {α:Type} [Inhabited α] {f:α→AV} {l:List α} {i:Nat} (h:i<l.length):(l.map f)[i]?=some (f (l.getD i default)):=by
  rw [List.getElem?_map,List.getD_eq_getElem?_getD,List.getElem?_eq_getElem h];rfl
theorem one_len {k:Nat} {x:AV} (h:(AV.cells x).length=k):∀ y∈[x],(AV.cells y).length=k:=by
  intro y hy;simp at hy;subst hy;exact h
theorem map_len {α:Type} {f:α→AV} {l:List α} {k:Nat} (h:∀ z,(AV.cells (f z)).length=k):∀ y∈l.map f,(AV.cells y).length=k:=by
  intro y hy
  obtain ⟨z,_,rfl⟩:=List.mem_map.1 hy
  exact h z
theorem flat_leaf {α:Type} {f:α→AV} {l:List α} (h:∀ z,AV.cells (f z)=[f z]):flat (l.map f)=l.map f:=by
  induction l with
  | nil=>rfl
  | cons x r ih=>simp only [List.map_cons,flat,List.flatMap_cons] at ih ⊢;rw [ih,h];rfl
section
variable {P:Program} {w0:Fr} {M0:Nat→Prop}
theorem src_plm {α:Type} {f:α→AV} {l:List α} {s:St} {y:Operand} {k:Nat} (hy:viewAt s.ev s.o y=some (.pl,.sl (l.map f))) (hk:∀ z,(AV.cells (f z)).length=k):Src P w0 M0 s y k (l.map f):=src_pl hy (map_len hk)
theorem src_scm {α:Type} {f:α→AV} {l:List α} {s:St} {y:Operand} {c:Cls} (hy:viewAt s.ev s.o y=some (c,.sl (l.map f))) (hk:∀ z,∃ v,f z=.sc v):Src P w0 M0 s y 1 (l.map f) :=
  src_sc hy (map_len fun z=>by obtain ⟨v,h⟩:=hk z;rw [h];rfl) (fun d hd=>by
    rw [flat_leaf (fun z=>by obtain ⟨v,h⟩:=hk z;rw [h];rfl)] at hd
    obtain ⟨z,_,rfl⟩:=List.mem_map.1 hd
    exact hk z)

def Fn2 (P : Program) (f : FuncId) (n t u : Nat) (c : Code) : Prop := ∃ fn, P.funcs[f]? = some fn ∧ fn.body = some c ∧ fn.ntmps = n ∧ fn.results = #[.tmp t, .tmp u] ∧ (fn.name == "runtime.NumGoroutine") = false
theorem Fn2.callable {f n t u:Nat} {c:Code} (h:Fn2 P f n t u c):Callable P f:=by
  obtain ⟨fn,h1,h2,_,_,h5⟩:=h
  exact ⟨fn,h1,h5,by rw [h2];rfl⟩
def endQ2 (t u:Nat) (r r':AV):Exit→St→Prop
  | .normal,s|.ret,s=>(∃ q,(s.s.lookup t).bind (retOf s.o)=some q∧q.data=r)∧(∃ q,(s.s.lookup u).bind (retOf s.o)=some q∧q.data=r')
  | _,_=>False
theorem calls_of_code2 {f n t u : Nat} {c : Code} (hf : Fn2 P f n t u c) {ds : List AV} {r r' : AV} {cl : Cls} {w : World} (hM0 : ∀ b, M0 b → b < w.heap.size) (hn : ds.length ≤ n) (vs : List Value) (hv : vs.length = ds.length)
    (hr:∀ (j:Nat) d,ds[j]?=some d→Rep w (clsM M0 (fun _=>False) cl) (vs.getD j undef) d)
    (h:CodeOk P (Fr.all w) M0 c (St.enter n cl ds) (endQ2 t u r r')) :
    Calls P f vs.toArray w fun e w'=>∃ v,e=.returned v∧Below w.heap.size w w'∧RVok P w' M0 (fun b=>b<w.heap.size) v (.p (.tup [r,r'])):=by
  obtain ⟨fn,h1,h2,h3,h4,h5⟩:=hf
  have hE:SimE P (Fr.all w) M0 ⟨fun _=>undef,fun _=>0,fun _ _=>undef⟩ (St.enter n cl ds) { tmps:=vs.toArray++Array.replicate (fn.ntmps-vs.toArray.size) undef,defers:=[] } w:=by
    rw [enter_eq]
    refine ⟨by simp [St.enterS,h3];omega,rfl,fun t d ht=>?_,wok_nil⟩
    obtain ⟨_,he⟩:=lookup_enterS _ 0 t d ht
    rw [Nat.sub_zero,List.getElem?_map,Option.map_eq_some_iff] at he
    obtain ⟨e,he,rfl⟩:=he
    have hlt:t<ds.length:=(List.getElem?_eq_some_iff.1 he).1
    refine ⟨by simp [St.enterS];omega,?_⟩
    have:=hr t e he
    simp only [SVok,St.enterS,owned_nil]
    have hget:(vs.toArray++Array.replicate (fn.ntmps-vs.toArray.size) undef).getD t undef=vs.getD t undef:=by
      rw [Array.getD_eq_getD_getElem?,Array.getElem?_append_left (by simp;omega),List.getD_eq_getElem?_getD];simp
    rw [hget];exact this
  refine calls_of_wp h1 h2 (wp_mono (show Code.wp P c _ _ _ from h _ _ ⟨_,hE⟩) fun e a' w' ⟨s',hq,E,hs⟩=>?_)
  have fin:((∃ q,(s'.s.lookup t).bind (retOf s'.o)=some q∧q.data=r)∧(∃ q,(s'.s.lookup u).bind (retOf s'.o)=some q∧q.data=r'))→a'.defers=[]∧∃ v,(results fn a'.tmps).run P w'=.ok v w'∧∃ v_1,Ending.returned v=Ending.returned v_1∧Below w.heap.size w w'∧RVok P w' M0 (fun b=>b<w.heap.size) v_1 (.p (.tup [r,r'])):=by
    rintro ⟨⟨q1,hq1,hd1⟩,⟨q2,hq2,hd2⟩⟩
    have one:∀ x q,(s'.s.lookup x).bind (retOf s'.o)=some q→Rep w' M0 (a'.tmps.getD x undef) q.data:=by
      intro x q hx
      cases hl:s'.s.lookup x with
      | none=>rw [hl] at hx;cases hx
      | some sv =>
        rw [hl] at hx
        exact (retOf_ok hs.wok (hs.slots x sv hl).2 hx).rep hM0
    refine ⟨hs.defers,.tuple #[a'.tmps.getD t undef,a'.tmps.getD u undef],by simp [results,h4],_,rfl,hs.wok.below.below,?_⟩
    have r1:=one t q1 hq1
    have r2:=one u q2 hq2
    rw [hd1] at r1;rw [hd2] at r2
    exact .tup [a'.tmps.getD t undef,a'.tmps.getD u undef] [r,r'] rfl (fun j d hd=>by
      match j,hd with
      | 0,hd=>simp at hd;subst hd;exact r1
      | 1,hd=>simp at hd;subst hd;exact r2
      | j+2,hd=>simp at hd)
  cases e with
  | normal=>exact fin hq
  | ret=>exact fin hq
  | exit _=>exact hq.elim
  | goto _=>exact hq.elim
  | panic _=>exact hq.elim
  | outgrown=>exact hq.elim
theorem callF_of_code2 {f n t u:Nat} {c:Code} (hf:Fn2 P f n t u c) {ds:List AV} {r r':AV} (hn:ds.length≤n)
    (h:∀ (w0:Fr) (M0:Nat→Prop),(∀ b,M0 b→b<w0.w.heap.size)→CodeOk P w0 M0 c (St.enter n .mx ds) (endQ2 t u r r')):CallF P f ds (.p (.tup [r,r'])) :=
  ⟨hf.callable,fun w vs hv hr=>calls_of_code2 (cl:=.mx) hf (fun b hb=>hb) hn vs hv (fun j d hd=>hr j d hd) (h (Fr.all w) (fun b=>b<w.heap.size) (fun b hb=>hb))⟩
theorem end2_ret {t u:Nat} {r r':AV} {s:St} {q q':RV} (h:(s.s.lookup t).bind (retOf s.o)=some q) (h':(s.s.lookup u).bind (retOf s.o)=some q') (e:q.data=r∧q'.data=r'):endQ2 t u r r' .ret s:=⟨⟨q,h,e.1⟩,⟨q',h',e.2⟩⟩
theorem pure_callN {o : Oper} {ρ : Operand → Option SV} {ob : List (Nat × Ob)} {cx : Operand} {args : Array Operand} {ats : Array TypeId} {c c' : Cls} {f : FuncId} {caps ds : List AV} {r : RV}
    (ho:o.op=.call { callee:=.value cx,args:=args,argTypes:=ats }) (hc:ρ cx=some (.v c' (.clo f caps))) (ha:capsView ρ ob args.toList=some (c,ds)) (hcap:caps=[]) (h:CallN P f ds r)
    (hM0:∀ b,M0 b→b<w0.w.heap.size):Pure P w0 M0 o ρ ob (.v c r.data):=by
  subst hcap
  intro E w ev hw hx
  have hcv:=hx cx _ hc
  simp only [SVok] at hcv
  generalize hq:ev cx=q at hcv
  cases hcv with
  | clo _ vs _ hn hr =>
    obtain ⟨g1,g2⟩:=capsView_ok hw hx _ c ds ha
    have hvs:vs=[]:=List.eq_nil_of_length_eq_zero (by simpa using hn)
    subst hvs
    unfold Yield
    rw [run_call ho hq h.1]
    refine ⟨rfl,?_⟩
    have hMlt:∀ b,clsM M0 (owned E ob) c b→b<w.heap.size:=by
      intro b hb
      cases c with
      | pl =>
        rcases hb with hb|hb
        · have:=hM0 b hb;have:=hw.below.size;omega
        · exact (hw.owned_range hb).2
      | mx=>exact (hw.owned_range hb).2
      | vw=>exact hb.elim
    have hall:=h.2 w (clsM M0 (owned E ob) c) (args.toList.map ev) hMlt (by simpa using g1) g2
    have e1:(args.toList.map ev).toArray=args.map ev++#[]:=by apply Array.ext' ;simp
    rw [e1] at hall
    exact hall.mono fun e w' ⟨v,he,hb,hrv⟩=>⟨v,he,hb.to,hrv.rep hMlt⟩
theorem pure_remn {o:Oper} {ρ:Operand→Option SV} {ob:List (Nat×Ob)} {x y:Operand} {T T':TypeId} {k:IntKind} {a b:Int} (ho:o.op=.binOp .rem T x y T') (hx:scal ρ x=some (.int k a)) (hy:scal ρ y=some (.int k b)) (h:0≤a∧0<b):Pure P w0 M0 o ρ ob (.v .pl (.sc (.int k (a % b)))):=by
  have:=pure_rem (P:=P) (w0:=w0) (M0:=M0) (ob:=ob) ho hx hy (by omega)
  rwa [Int.tmod_eq_emod_of_nonneg h.1] at this
theorem pure_quon {o:Oper} {ρ:Operand→Option SV} {ob:List (Nat×Ob)} {x y:Operand} {T T':TypeId} {a b:Int} (ho:o.op=.binOp .quo T x y T') (hx:scal ρ x=some (.int .i64 a)) (hy:scal ρ y=some (.int .i64 b)) (h:0≤a∧0<b∧a≤9223372036854775807):Pure P w0 M0 o ρ ob (.v .pl (int (a / b))):=by
  have:=pure_quo (P:=P) (w0:=w0) (M0:=M0) (ob:=ob) ho hx hy (by omega)
  have h1:0≤a / b:=Int.ediv_nonneg h.1 (by omega)
  have h2:a / b≤a:=Int.ediv_le_self _ h.1
  rwa [Int.tdiv_eq_ediv_of_nonneg h.1,wrap64 (by omega) (by omega)] at this
theorem pure_lenm {α:Type} {f:α→AV} {l:List α} {o:Oper} {ρ:Operand→Option SV} {ob:List (Nat×Ob)} {x:Operand} {T e:TypeId} {c:Cls} (ho:o.op=.call { callee:=.builtin .len,args:=#[x],argTypes:=#[T] }) (hT:P.underlying T=some (.slice e)) (hx:viewAt ρ ob x=some (c,.sl (l.map f))) :
    Pure P w0 M0 o ρ ob (.v .pl (int l.length)):=by
  have:=pure_len (P:=P) (w0:=w0) (M0:=M0) ho hT hx
  rwa [List.length_map] at this
def cutQ (P:Program) (w0:Fr) (M0:Nat→Prop) (R:St→Prop) (Q:Exit→St→Prop):Exit→St→Prop
  | .normal,s=>∃ s',Imp P w0 M0 s s'∧R s'
  | e,s=>Q e s
theorem code_cut {x y:Code} {s:St} {Q:Exit→St→Prop} (R:St→Prop) (h:CodeOk P w0 M0 x s (cutQ P w0 M0 R Q)) (h':∀ s,R s→CodeOk P w0 M0 y s Q):CodeOk P w0 M0 (.seq x y) s Q :=
  code_seq (h.mono fun e s' hq=>by
    cases e<;>simp only [cutQ,seqQ] at hq ⊢<;>first
      | exact hq
      | (obtain ⟨s2, hi, hR⟩ := hq
         exact CodeOk.imp hi (h' s2 hR)))
theorem pure_min {o:Oper} {ρ:Operand→Option SV} {ob:List (Nat×Ob)} {x y:Operand} {T T':TypeId} {a b:Int} (ho:o.op=.call { callee:=.builtin .min,args:=#[x,y],argTypes:=#[T,T'] }) (hx:scal ρ x=some (.int .i64 a)) (hy:scal ρ y=some (.int .i64 b)):Pure P w0 M0 o ρ ob (.v .pl (int (if b<a then b else a))) :=
  pure_scal rfl fun w ev h=>by
    simp [execOp,ho,resolve,h x _ hx,h y _ hy,invoke,builtin,go_sem]
end
end Go.Am

