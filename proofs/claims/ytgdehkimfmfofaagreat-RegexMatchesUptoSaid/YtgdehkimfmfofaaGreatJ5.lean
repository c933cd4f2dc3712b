/-
  Literals of structs and slices;small conversions;strings.
-/
import Derived.Test.YtgdehkimfmfofaaGreatJ4
set_option linter.unusedVariables false
set_option linter.unusedSectionVars false
set_option linter.unusedSimpArgs false
namespace Go.Am
open Go.RowKit

def elOk (P:Program) (e:TypeId) (k b:Nat):Bool :=
  match P.info? e with
  | some i=>Nat.beq i.size k&&Nat.beq i.bytes b&&Nat.blt 0 k&&(match i.zero with|some z=>Nat.beq z.cells.size k|none=>false)
  | none=>false
theorem elOk_spec {P:Program} {e:TypeId} {k b:Nat} (h:elOk P e k b=true):∃ i z,P.info? e=some i∧i.zero=some z∧i.size=k∧i.bytes=b∧z.cells.size=k∧0<k∧P.cellsOf e=k:=by
  unfold elOk at h
  split at h
  · rename_i i hi
    simp only [Bool.and_eq_true] at h
    obtain ⟨⟨⟨h1,h2⟩,h3⟩,h4⟩:=h
    split at h4
    · rename_i z hz
      exact ⟨i,z,hi,hz,Nat.eq_of_beq_eq_true h1,Nat.eq_of_beq_eq_true h2,Nat.eq_of_beq_eq_true h4,by simpa using h3,by unfold Program.cellsOf;rw [hi];exact Nat.eq_of_beq_eq_true h1⟩
    · cases h4
  · cases h
theorem flat_append (xs ys:List AV):flat (xs++ys)=flat xs++flat ys:=by simp [flat]

section
variable {P:Program} {w0:Fr} {M0:Nat→Prop}

def Src (P : Program) (w0 : Fr) (M0 : Nat → Prop) (s : St) (y : Operand) (k : Nat) (ys : List AV) : Prop :=
  ∀ E a w, SimE P w0 M0 E s a w → ∃ (A : Option Addr) (n c : Nat) (vals : List Value), a.eval y = .slice A n c ∧ ys.length = n ∧ vals.length = n * k ∧
    (0<n→∃ ad,A=some ad∧∀ (j:Nat) u,vals[j]?=some u→w.cell? (ad.add j)=some u)∧(∀ x∈ys,(AV.cells x).length=k) ∧
    ∀ (j:Nat) d,(flat ys)[j]?=some d→AV.leaf d=true∧Rep w (clsM M0 (owned E s.o) .pl) (vals.getD j undef) d
theorem src_of_rep {w : World} {M : Nat → Prop} {v : Value} {ys : List AV} {k : Nat} (hr : Rep w M v (.sl ys)) (hk : ∀ x ∈ ys, (AV.cells x).length = k) :
    ∃ (A:Option Addr) (n c:Nat) (vals:List Value),v=.slice A n c∧ys.length=n∧vals.length=n*k ∧
    (0<n→∃ ad,A=some ad∧∀ (j:Nat) u,vals[j]?=some u→w.cell? (ad.add j)=some u) ∧
    ∀ (j:Nat) d,(flat ys)[j]?=some d→AV.leaf d=true∧Rep w M (vals.getD j undef) d:=by
  cases hr with
  | sl a n cap _ k' cv hn hc hk' hb hl hr =>
    refine ⟨a,n,cap,(List.range (n*k)).map cv,rfl,hn,by simp,fun h0=>?_,fun j d hd=>⟨hl j d hd,?_⟩⟩
    · have hkk : k' = k := by
        cases ys with
        | nil=>simp at hn;omega
        | cons x r=>rw [← hk x List.mem_cons_self,hk' x List.mem_cons_self]
      subst hkk
      obtain ⟨b,o,rfl,_,_,hcell⟩:=hb h0
      refine ⟨_,rfl,fun j u hu=>?_⟩
      rw [List.getElem?_map] at hu
      rcases Nat.lt_or_ge j (n*k') with hj|hj
      · rw [List.getElem?_range hj] at hu
        simp only [Option.map_some,Option.some.injEq] at hu
        rw [Addr.add_lit,hcell j hj,hu]
      · rw [List.getElem?_eq_none (by simpa using hj)] at hu
        cases hu
    · have hlt : j < n * k := by
        have:=flat_length ys hk
        rw [hn] at this
        rw [← this];exact (List.getElem?_eq_some_iff.1 hd).1
      rw [List.getD_eq_getElem?_getD,List.getElem?_map,List.getElem?_range hlt]
      exact hr j d hd
theorem src_pl {s:St} {y:Operand} {k:Nat} {ys:List AV} (hy:viewAt s.ev s.o y=some (.pl,.sl ys)) (hk:∀ x∈ys,(AV.cells x).length=k):Src P w0 M0 s y k ys:=by
  intro E a w hs
  obtain ⟨A,n,c,vals,h1,h2,h3,h4,h5⟩:=src_of_rep (viewAt_ok hs.wok (fun x e hx=>hs.ev hx) hy) hk
  exact ⟨A,n,c,vals,h1,h2,h3,h4,hk,h5⟩
theorem src_sc {s:St} {y:Operand} {c:Cls} {k:Nat} {ys:List AV} (hy:viewAt s.ev s.o y=some (c,.sl ys)) (hk:∀ x∈ys,(AV.cells x).length=k) (hsc:∀ d∈flat ys,∃ v,d=.sc v):Src P w0 M0 s y k ys:=by
  intro E a w hs
  obtain ⟨A,n,c,vals,h1,h2,h3,h4,h5⟩:=src_of_rep (viewAt_ok hs.wok (fun x e hx=>hs.ev hx) hy) hk
  refine ⟨A,n,c,vals,h1,h2,h3,h4,hk,fun j d hd=>⟨(h5 j d hd).1,?_⟩⟩
  have h6:=(h5 j d hd).2
  obtain ⟨v,rfl⟩:=hsc d (List.mem_of_getElem? hd)
  generalize vals.getD j undef=u at h6
  cases h6
  exact .sc _ ‹_›
theorem SimE.newArr {E : Env} {s : St} {a : Act} {w w' : World} {t : Nat} {e : TypeId} {xs : List AV} {v : Value} {vals : List Value} (h : SimE P w0 M0 E s a w) (hnd : Nodup s.s = true) (hM0 : ∀ b, M0 b → b < w0.w.heap.size)
    (hg:w.grownBy w' none) (hdr:w0.dr→w.drawn≤w'.drawn) (hown:w'.ownsRow 0 e (P.cellsOf e) v xs.length vals) (hblk:∀ b,v.ownBlock=some b→w.heap.size≤b) (hk:∀ x∈xs,(AV.cells x).length=P.cellsOf e)
    (hr:∀ (j:Nat) d,(flat xs)[j]?=some d→AV.leaf d=true∧(Rep w (clsM M0 (owned E s.o) .pl) (vals.getD j undef) d∨Rep w' (fun b=>b<w.heap.size∨v.ownBlock=some b) (vals.getD j undef) d)) :
    SimE P w0 M0 { E with cur:=fun i=>if i=t then v else E.cur i } (s.upd true t (.arr e xs)) a w':=by
  refine h.upd true (fun h=>by cases h) hnd hM0 (fun i hi=>⟨by simp [hi],rfl⟩) (.inr rfl) none hg hdr (fun g hg=>by cases hg) (fun b hb=>.inr ?_) (fun rep _=>?_)
  · simp only [ownB, if_true] at hb
    exact hblk b hb
  · refine ⟨vals, ⟨by simpa using hown, fun b hb => h.wok.new_free hM0 (hblk b (by simpa using hb))⟩, hk, fun j d hd => ⟨(hr j d hd).1, ?_⟩⟩
    rcases (hr j d hd).2 with h1|h1
    · exact rep .pl _ _ h1 (by simp)
    · refine h1.weak fun b hb => ?_
      rcases hb with hb|⟨i,ob,h3,h4⟩
      · have:=hM0 b hb;have:=h.wok.below.size;exact .inl (by omega)
      · by_cases hi : i = t
        · subst hi
          rw [lookup_ins,if_pos rfl] at h3
          simp only [Option.some.injEq] at h3
          subst h3
          simp only [ownB,if_true] at h4
          exact .inr h4
        · rw [lookup_ins, if_neg hi, lookup_killO, Option.map_eq_some_iff] at h3
          obtain ⟨ob0,h5,rfl⟩:=h3
          refine .inl (h.wok.owned_range ⟨i,ob0,h5,?_⟩).2
          have h4:=ownB_kill.1 h4
          cases ob0<;>simp only [ownB,hi,if_false] at h4 ⊢<;>exact h4
theorem sv_own_new {w:World} {E:Env} {o:List (Nat×Ob)} {t:Nat} {v:Value} {e:TypeId} {xs:List AV}:SVok P M0 w { E with cur:=fun i=>if i=t then v else E.cur i } (ins t (.arr e xs) o) v (.own t):=by
  intro e' xs' _
  simp

variable {o:Oper} {s:St} {t id:Nat} {x y:Operand} {T e:TypeId} {k b:Nat} {xs ys:List AV}

theorem step_append (ho : o.op = .call { callee := .builtin .append, args := #[x, y], argTypes := #[T, T] }) (hd : o.dst = some t) (hn : Nat.blt t s.n = true) (hnd : Nodup s.s = true)
    (hT:P.underlying T=some (.slice e)) (hel:elOk P e k b=true) (hx:s.ev x=some (.own id)) (hl:s.o.lookup id=some (.arr e xs)) (hM0:∀ b,M0 b→b<w0.w.heap.size)
    (hy:Src P w0 M0 s y k ys) (hb:(xs.length+ys.length)*b≤140737488355328) (hm:xs.length+ys.length≤4611686018427387904):Step P w0 M0 o s ((s.upd true id (.arr e (xs++ys))).put t (.own id)):=by
  rintro a w Q ⟨E,hs⟩
  obtain ⟨i,z,hi,hz,hsz,hby,hzs,hk0,hck⟩:=elOk_spec hel
  obtain ⟨vals0,⟨hown,hownF⟩,hxk,hxr⟩:=hs.wok.objs id _ hl
  obtain ⟨A,n,c,vals,hev,hyn,hvl,hcell,hyk,hyr⟩:=hy E a w hs
  have hex:=hs.ev hx e xs hl
  rw [hck] at hown hxk
  have hfy:=flat_length ys hyk
  have hone:∀ u∈vals,u.oneCell'=true:=by
    intro u hu
    obtain ⟨j,hj,rfl⟩:=List.getElem_of_mem hu
    have hjf:j<(flat ys).length:=by rw [hfy,hyn,← hvl];exact hj
    have:=hyr j (flat ys)[j] (List.getElem?_eq_getElem hjf)
    have h2:=this.2.one this.1
    rwa [List.getD_eq_getElem?_getD,List.getElem?_eq_getElem hj] at h2
  have run:∃ v' w',(Builtin.append_ #[T,T] o.type #[E.cur id,.slice A n c]).run P w=.ok v' w'∧w'.ownsRow 0 e k v' (xs.length+n) (vals0++vals)∧w.grownBy w' (E.cur id).ownBlock ∧
      (v'.ownBlock=(E.cur id).ownBlock∨v'.ownBlock=some w.heap.size):=by
    rcases Nat.eq_zero_or_pos n with h0|h0
    · subst h0
      have hv0:vals=[]:=List.eq_nil_of_length_eq_zero (by simpa using hvl)
      subst hv0
      refine ⟨E.cur id,w,?_,by simpa using hown,⟨rfl,rfl,rfl,Nat.le_refl _,fun _ _ _=>rfl⟩,.inl rfl⟩
      have hfc:(Builtin.firstCells i.size 0 (.slice A 0 c)).run P w=.ok #[] w:=by
        cases A<;>simp [Builtin.firstCells,loadCells,loadCellsFrom]
      rcases hown.2 with ⟨hv,_⟩|⟨g,cap,cur,hv,_,_,hnc,_⟩
      · rw [hv]
        simp [Builtin.append_,run_underlying hT,sizeOf,typeInfo,hi,Builtin.lenOf,hfc]
      · rw [hv]
        simp [Builtin.append_,run_underlying hT,sizeOf,typeInfo,hi,Builtin.lenOf,hfc,hnc,storeCells]
    · obtain ⟨ad, rfl, hcell'⟩ := hcell h0
      obtain ⟨v',w',h1,h2,h3,_,h5⟩:=run_append_own_at (P:=P) w 0 T o.type e i z k b hT hi hz hsz hby hzs hk0 (E.cur id) xs.length vals0 hown ad n c vals hvl hcell' hone
        (by simp only [maxLen];omega) (by rw [← hyn];exact hb) (Nat.zero_le _)
      exact ⟨v',w',h1,h2,h3,h5⟩
  obtain ⟨v',w',hrun,hown',hg,hblk⟩:=run
  unfold Oper.wp
  have hexec:(execOp a.eval o).run P w=.ok (.value v') w':=by
    simp [execOp,ho,resolve,invoke,builtin,hex,hev,hrun]
  rw [hexec]
  simp only [Oper.upon,hd]
  refine ⟨{ E with cur:=fun i=>if i=id then v' else E.cur i },SimE.put ?_ (by simpa [St.upd] using hn) sv_own_new⟩
  refine hs.upd true (fun h=>by cases h) hnd hM0 (fun j hj=>⟨by simp [hj],rfl⟩) (.inr rfl) (E.cur id).ownBlock hg (fun _=>run_drawn _ _ _ _ hrun) (fun g hg=>⟨_,hl,hg⟩) (fun b hb=>?_) (fun rep _=>?_)
  · simp only [ownB, if_true] at hb
    rcases hblk with h1|h1
    · exact .inl ⟨_,hl,by rw [h1] at hb;exact hb⟩
    · rw [h1] at hb;simp only [Option.some.injEq] at hb;exact .inr (by omega)
  · have hfx := flat_length xs hxk
    refine ⟨vals0++vals,?_,?_,fun j d hd=>?_⟩
    · refine ⟨by simp only [if_true, hck, List.length_append, hyn]; exact hown', fun b hb => ?_⟩
      simp only [if_true] at hb
      rcases hblk with h1|h1
      · exact hownF b (h1 ▸ hb)
      · rw [h1] at hb;simp only [Option.some.injEq] at hb;exact hs.wok.new_free hM0 (by omega)
    · rw [hck]; intro u hu
      rcases List.mem_append.1 hu with h|h
      · exact hxk u h
      · exact hyk u h
    · have hl0 : vals0.length = (flat xs).length := by rw [hfx, hown.1]
      rw [flat_append] at hd
      rcases Nat.lt_or_ge j (flat xs).length with hj|hj
      · rw [List.getElem?_append_left hj] at hd
        have:=hxr j d hd
        refine ⟨this.1,?_⟩
        rw [List.getD_eq_getElem?_getD,List.getElem?_append_left (by omega),← List.getD_eq_getElem?_getD]
        exact rep .pl _ _ this.2 (by simp)
      · rw [List.getElem?_append_right hj] at hd
        have:=hyr _ d hd
        refine ⟨this.1,?_⟩
        rw [List.getD_eq_getElem?_getD,List.getElem?_append_right (by omega),hl0,← List.getD_eq_getElem?_getD]
        exact rep .pl _ _ this.2 (by simp)

theorem step_nil (ho:o.op=.assign x) (hd:o.dst=some t) (hn:Nat.blt t s.n=true) (hnd:Nodup s.s=true) (hx:scal s.ev x=some (.slice none 0 0)) (e:TypeId) (hM0:∀ b,M0 b→b<w0.w.heap.size) :
    Step P w0 M0 o s ((s.upd true t (.arr e [])).put t (.own t)):=by
  rintro a w Q ⟨E,hs⟩
  have hv:a.eval x=.slice none 0 0:=scal_ok (ρ:=s.ev) (x:=x) (ob:=s.o) (ev:=a.eval) (fun x e hx=>hs.ev hx) hx
  unfold Oper.wp
  have hexec:(execOp a.eval o).run P w=.ok (.value (.slice none 0 0)) w:=by simp [execOp,ho,hv]
  rw [hexec]
  simp only [Oper.upon,hd]
  refine ⟨{ E with cur:=fun i=>if i=t then .slice none 0 0 else E.cur i },SimE.put ?_ (by simpa [St.upd] using hn) sv_own_new⟩
  exact hs.newArr hnd hM0 ⟨rfl,rfl,rfl,Nat.le_refl _,fun _ _ _=>rfl⟩ (fun _=>Nat.le_refl _) (vals:=[]) (World.ownsRow_nil w _ _ _) (fun b hb=>by cases hb) (fun x hx=>by cases hx) (fun j d hd=>by simp [flat] at hd)

end
end Go.Am

namespace Go.Am
open Go.RowKit Go.Great

def Cls.max:Cls→Cls→Cls
  | .pl,c=>c
  | .mx,.pl=>.mx
  | .mx,c=>c
  | .vw,_=>.vw
theorem clsM_max1 {M0 own:Nat→Prop} (c c':Cls) (b:Nat) (h:clsM M0 own (c.max c') b):clsM M0 own c b:=by
  cases c<;>cases c'<;>simp_all [Cls.max,clsM]
theorem clsM_max2 {M0 own:Nat→Prop} (c c':Cls) (b:Nat) (h:clsM M0 own (c.max c') b):clsM M0 own c' b:=by
  cases c<;>cases c'<;>simp_all [Cls.max,clsM]

def zeroOf (P:Program) (t:TypeId):Option (List Value):=((P.info? t).bind (·.zero)).map (·.cells.toList)
def placesOf (P:Program) (t:TypeId):Option (List (Nat×Nat)) :=
  match P.underlying t with
  | some (.struct fields)=>fields.toList.mapM fun f=>(P.info? f.type).map fun i=>(f.offset,i.size)
  | _=>none
def fillA (places : List (Nat × Nat)) (cells : List AV) : List (Nat × AV) → Option (List AV)
  | []=>some cells
  | (i, d) :: r => match places[i]? with
    | none=>none
    | some (off,size)=>bif Nat.beq d.cells.length size&&Nat.ble (off+size) cells.length then fillA places (cells.take off++d.cells++cells.drop (off+size)) r else none
def RelL (w:World) (M:Nat→Prop) (vs:Array Value) (ds:List AV):Prop:=vs.size=ds.length∧∀ (j:Nat) d,ds[j]?=some d→AV.leaf d=true∧Rep w M (vs.getD j undef) d

theorem fill_rel {w : World} {M : Nat → Prop} (places : List (Nat × Nat)) : ∀ (parts : List (Nat × Value)) (ps : List (Nat × AV)) (vs : Array Value) (ds r : List AV), RelL w M vs ds → parts.length = ps.length →
    (∀ (j:Nat) i v i' d,parts[j]?=some (i,v)→ps[j]?=some (i',d)→i=i'∧Rep w M v d∧∀ us,d≠.tup us)→fillA places ds ps=some r→∃ vs',Instr.fill (places.toArray[·]?) vs parts=some vs'∧RelL w M vs' r
  | [], ps, vs, ds, r, h, hl, hp, hf => by
    cases ps with
    | nil=>simp only [fillA,Option.some.injEq] at hf;subst hf;exact ⟨vs,rfl,h⟩
    | cons _ _=>simp at hl
  | (i, v) :: parts, ps, vs, ds, r, h, hl, hp, hf => by
    cases ps with
    | nil=>simp at hl
    | cons p ps =>
      obtain ⟨i',d⟩:=p
      obtain ⟨rfl,hrep,hnt⟩:=hp 0 i v i' d rfl rfl
      unfold fillA at hf
      cases hpl:places[i]? with
      | none=>rw [hpl] at hf;cases hf
      | some q =>
        obtain ⟨off,size⟩:=q
        rw [hpl] at hf
        simp only [] at hf
        cases hc:(Nat.beq d.cells.length size&&Nat.ble (off+size) ds.length) with
        | false=>rw [hc] at hf;simp at hf
        | true =>
          rw [hc] at hf
          simp only [cond_true] at hf
          simp only [Bool.and_eq_true] at hc
          have h1:=Nat.eq_of_beq_eq_true hc.1
          have h2:=Nat.le_of_ble_eq_true hc.2
          obtain ⟨g1,g2,g3⟩:=hrep.cells hnt
          have hfs:=foldl_set off v.cells.toList 0 vs
          have hz:(v.cells.zipIdx.foldl (fun cs (x:Value×Nat)=>cs.setIfInBounds (off+x.2) x.1) vs)=(v.cells.toList.zipIdx 0).foldl (fun cs (x:Value×Nat)=>cs.setIfInBounds (off+x.2) x.1) vs:=by
            rw [← Array.foldl_toList,Array.toList_zipIdx]
          have ih:=fill_rel places parts ps (v.cells.zipIdx.foldl (fun cs (x:Value×Nat)=>cs.setIfInBounds (off+x.2) x.1) vs) (ds.take off++d.cells++ds.drop (off+size)) r ?_ (by simpa using hl)
            (fun j i v i' d hj hj'=>hp (j+1) i v i' d (by simpa using hj) (by simpa using hj')) hf
          · obtain ⟨vs', e1, e2⟩ := ih
            refine ⟨vs',?_,e2⟩
            unfold Instr.fill
            have hcnd:(v.cells.size≠size||off+v.cells.size > vs.size)=false:=by
              have e0:=h.1
              simp only [ne_eq,Bool.or_eq_false_iff,decide_eq_false_iff_not,Classical.not_not]
              omega
            simp only [List.getElem?_toArray,hpl]
            rw [if_neg (by simpa using hcnd)]
            simpa using e1
          · rw [hz]
            have hvl:v.cells.toList.length=size:=by simp [g1,h1]
            refine ⟨by rw [hfs.1,h.1];simp;omega,fun j e he=>?_⟩
            rw [Array.getD_eq_getD_getElem?,hfs.2 j]
            simp only [Nat.add_zero]
            rw [List.append_assoc] at he
            rcases Nat.lt_or_ge j off with hj|hj
            · rw [List.getElem?_append_left (by simp; omega), List.getElem?_take, if_pos hj] at he
              rw [if_neg (by omega)]
              have:=h.2 j e he
              rwa [Array.getD_eq_getD_getElem?] at this
            · rw [List.getElem?_append_right (by simp; omega)] at he
              have hto:(ds.take off).length=off:=by simp;omega
              rw [hto] at he
              rcases Nat.lt_or_ge (j-off) d.cells.length with hj2|hj2
              · rw [List.getElem?_append_left hj2] at he
                rw [if_pos ⟨hj,by omega,by have:=h.1;omega⟩]
                refine ⟨g2 _ e he,?_⟩
                have:=g3 _ e he
                rw [Array.getD_eq_getD_getElem?] at this
                simpa using this
              · rw [List.getElem?_append_right hj2, List.getElem?_drop] at he
                rw [if_neg (by omega)]
                have:=h.2 j e (by rw [← he];congr 1;omega)
                rwa [Array.getD_eq_getD_getElem?] at this

section
variable {P:Program} {w0:Fr} {M0:Nat→Prop}
variable {o:Oper} {ρ:Operand→Option SV} {ob:List (Nat×Ob)} {d:SV} {x y:Operand} {T T' e:TypeId} {k b:Nat} {c:Cls}

def notTup:AV→Bool
  | .tup _=>false
  | _=>true
def partsView (ρ : Operand → Option SV) (ob : List (Nat × Ob)) : List (Nat × Operand) → Option (Cls × List (Nat × AV))
  | []=>some (.pl,[])
  | (i, x) :: r => match viewAt ρ ob x, partsView ρ ob r with
    | some (c,d),some (c',ds)=>bif notTup d then some (c.max c',(i,d) :: ds) else none
    | _,_=>none
theorem partsView_ok {E : Env} {w : World} {ev : Operand → Value} (hw : WOk P w0 M0 E ob w) (h : ∀ x e, ρ x = some e → SVok P M0 w E ob (ev x) e) : ∀ (l : List (Nat × Operand)) (c : Cls) (ps : List (Nat × AV)), partsView ρ ob l = some (c, ps) →
    l.length=ps.length∧∀ (j:Nat) i x i' d,l[j]?=some (i,x)→ps[j]?=some (i',d)→i=i'∧Rep w (clsM M0 (owned E ob) c) (ev x) d∧∀ us,d≠.tup us
  | [], c, ps, hp => by
    simp only [partsView,Option.some.injEq,Prod.mk.injEq] at hp
    obtain ⟨rfl,rfl⟩:=hp
    exact ⟨rfl,fun j i x i' d h=>by simp at h⟩
  | (i, x) :: r, c, ps, hp => by
    unfold partsView at hp
    split at hp
    · rename_i c1 d1 c2 ds h1 h2
      cases hnt:notTup d1 with
      | false=>rw [hnt] at hp;cases hp
      | true =>
        rw [hnt] at hp
        simp only [cond_true,Option.some.injEq,Prod.mk.injEq] at hp
        obtain ⟨rfl,rfl⟩:=hp
        obtain ⟨g1,g2⟩:=partsView_ok hw h r c2 ds h2
        refine ⟨by simp [g1],fun j i' x' i2 d2 hj hj'=>?_⟩
        cases j with
        | zero =>
          simp only [List.getElem?_cons_zero,Option.some.injEq,Prod.mk.injEq] at hj hj'
          obtain ⟨rfl,rfl⟩:=hj
          obtain ⟨rfl,rfl⟩:=hj'
          exact ⟨rfl,(viewAt_ok hw h h1).weak (clsM_max1 c1 c2),fun us hu=>by subst hu;cases hnt⟩
        | succ j =>
          have:=g2 j i' x' i2 d2 (by simpa using hj) (by simpa using hj')
          exact ⟨this.1,this.2.1.weak (clsM_max2 c1 c2),this.2.2⟩
    · cases hp

theorem pure_build {parts : Array (Nat × Operand)} {places : List (Nat × Nat)} {zs : List Value} {ps : List (Nat × AV)} {r : List AV} (ho : o.op = .build T parts) (hpl : placesOf P T = some places) (hz : zeroOf P T = some zs)
    (hzs:zs.all Value.oneCell'=true) (hp:partsView ρ ob parts.toList=some (c,ps)) (hf:fillA places (zs.map .sc) ps=some r):Pure P w0 M0 o ρ ob (.v c (.agg r)) :=
  pure_value fun E w ev hw h=>by
    obtain ⟨g1,g2⟩:=partsView_ok hw h _ c ps hp
    have hrel:RelL w (clsM M0 (owned E ob) c) zs.toArray (zs.map .sc):=by
      refine ⟨by simp,fun j d hd=>?_⟩
      rw [List.getElem?_map,Option.map_eq_some_iff] at hd
      obtain ⟨z,hz1,rfl⟩:=hd
      refine ⟨rfl,?_⟩
      have:zs.toArray.getD j undef=z:=by simp [Array.getD_eq_getD_getElem?,hz1]
      rw [this]
      exact .sc z (by rw [List.all_eq_true] at hzs;exact hzs z (List.mem_of_getElem? hz1))
    obtain ⟨vs',e1,e2⟩:=fill_rel places ((parts.toList.map fun (p:Nat×Operand)=>(p.1,ev p.2))) ps zs.toArray (zs.map .sc) r hrel (by simpa using g1) (fun j i v i' d hj hj'=>by
      rw [List.getElem?_map,Option.map_eq_some_iff] at hj
      obtain ⟨⟨i2,x2⟩,hj1,hj2⟩:=hj
      simp only [Prod.mk.injEq] at hj2
      obtain ⟨rfl,rfl⟩:=hj2
      exact g2 j i2 x2 i' d hj1 hj') hf
    have hrun:(Instr.build T (parts.map fun (i,x)=>(i,ev x))).run P w=.ok (.agg vs') w:=by
      apply run_build
      unfold placesOf at hpl
      unfold zeroOf at hz
      unfold Program.built
      split at hpl
      · rename_i fields hu
        cases hi:P.info? T with
        | none=>rw [hi] at hz;cases hz
        | some it =>
          rw [hi] at hz
          simp only [Option.bind_some,Option.map_eq_some_iff] at hz
          obtain ⟨z,hz1,hz2⟩:=hz
          simp only [hu,hz1,hpl]
          have e0:z.cells=zs.toArray:=by rw [← hz2]
          rw [e0,Array.toList_map]
          exact e1
      · cases hpl
    refine ⟨.agg vs',w,by simp [execOp,ho,hrun],.refl _ _,?_⟩
    have:=Rep.agg (w:=w) (M:=clsM M0 (owned E ob) c) vs'.toList r (by simpa using e2.1) (fun j d hd=>(e2.2 j d hd).1) (fun j d hd=>by
      have:=(e2.2 j d hd).2
      rwa [Array.getD_eq_getD_getElem?,← Array.getElem?_toList,← List.getD_eq_getElem?_getD] at this)
    simp only [SVok];simpa using this

theorem run_literal {w:World} {parts:List Value} {n:Nat} {ps:Array (Nat×Value)} (hT:P.underlying T=some (.slice e)) (hel:elOk P e k b=true) (hps:ps.toList=(parts.zipIdx 0).map fun x=>(x.2,x.1)) (hn:parts.length=n) (hc:∀ v∈parts,v.cells.size=k)
    (hsm:n*k≤16777216) (hn0:0<n):(Instr.buildSlice T n ps).run P w=.ok (.slice (some ⟨w.heap.size,0,none⟩) n n) (w.alloc (.cells (parts.flatMap fun v=>v.cells.toList).toArray e)):=by
  obtain ⟨i,z,hi,hz,hsz,hby,hzs,hk0,hck⟩:=elOk_spec hel
  subst hsz
  have hpos:0<n*i.size:=Nat.mul_pos hn0 hk0
  refine run_buildSlice (P:=P) w T e n ps _ i z hT hi hz (by simp;omega) (by omega) ?_
  rw [hps]
  exact fill_whole hk0 parts _ hc (by simp [hn])

theorem flatMap_cells_get:∀ (vs:List Value) (ds:List AV),vs.length=ds.length→(∀ (j:Nat) v d,vs[j]?=some v→ds[j]?=some d→v.cells.size=d.cells.length)→(vs.flatMap fun v=>v.cells.toList).length=(flat ds).length
  | [],[],_,_=>rfl
  | [],_ :: _,h,_=>by simp at h
  | _ :: _,[],h,_=>by simp at h
  | v :: vs, d :: ds, h, hj => by
    have ih:=flatMap_cells_get vs ds (by simpa using h) (fun j v d h1 h2=>hj (j+1) v d (by simpa using h1) (by simpa using h2))
    have h0:=hj 0 v d rfl rfl
    simp only [flat,List.flatMap_cons,List.length_append] at ih ⊢
    rw [ih];simp [h0]
theorem flatMap_rel {w:World} {M:Nat→Prop}:∀ (vs:List Value) (ds:List AV),vs.length=ds.length→(∀ (j:Nat) v d,vs[j]?=some v→ds[j]?=some d→Rep w M v d∧∀ us,d≠.tup us) →
    ∀ (j:Nat) d,(flat ds)[j]?=some d→AV.leaf d=true∧Rep w M ((vs.flatMap fun v=>v.cells.toList).getD j undef) d
  | [],[],_,_,j,d,hd=>by simp [flat] at hd
  | [],_ :: _,h,_,_,_,_=>by simp at h
  | _ :: _,[],h,_,_,_,_=>by simp at h
  | v :: vs, d0 :: ds, h, hj, j, d, hd => by
    have ih:=flatMap_rel vs ds (by simpa using h) (fun j v d h1 h2=>hj (j+1) v d (by simpa using h1) (by simpa using h2))
    obtain ⟨hr,hnt⟩:=hj 0 v d0 rfl rfl
    obtain ⟨g1,g2,g3⟩:=hr.cells hnt
    simp only [flat,List.flatMap_cons] at hd ih ⊢
    rcases Nat.lt_or_ge j d0.cells.length with hlt|hge
    · rw [List.getElem?_append_left hlt] at hd
      refine ⟨g2 j d hd,?_⟩
      rw [List.getD_eq_getElem?_getD,List.getElem?_append_left (by simp [g1];exact hlt)]
      have:=g3 j d hd
      rwa [Array.getD_eq_getD_getElem?,← Array.getElem?_toList] at this
    · rw [List.getElem?_append_right hge] at hd
      have:=ih _ d hd
      refine ⟨this.1,?_⟩
      rw [List.getD_eq_getElem?_getD,List.getElem?_append_right (by simp [g1];exact hge)]
      rw [List.getD_eq_getElem?_getD] at this
      simpa [g1] using this.2

def litView (ρ : Operand → Option SV) (ob : List (Nat × Ob)) (k : Nat) : Nat → List (Nat × Operand) → Option (Cls × List AV)
  | _,[]=>some (.pl,[])
  | n, (i, x) :: r => bif Nat.beq i n then match viewAt ρ ob x, litView ρ ob k (n + 1) r with
    | some (c,d),some (c',ds)=>bif notTup d&&Nat.beq d.cells.length k then some (c.max c',d :: ds) else none
    | _,_=>none else none
theorem litView_ok {E : Env} {w : World} {ev : Operand → Value} (hw : WOk P w0 M0 E ob w) (h : ∀ x e, ρ x = some e → SVok P M0 w E ob (ev x) e) : ∀ (l : List (Nat × Operand)) (n : Nat) (c : Cls) (ds : List AV), litView ρ ob k n l = some (c, ds) →
    ∃ vs : List Value, (l.map fun (p : Nat × Operand) => (p.1, ev p.2)) = (vs.zipIdx n).map (fun x => (x.2, x.1)) ∧ vs.length = ds.length ∧ (∀ d ∈ ds, d.cells.length = k) ∧ (∀ v ∈ vs, v.cells.size = k) ∧
      ∀ (j:Nat) v d,vs[j]?=some v→ds[j]?=some d→Rep w (clsM M0 (owned E ob) c) v d∧∀ us,d≠.tup us
  | [], n, c, ds, hp => by
    simp only [litView,Option.some.injEq,Prod.mk.injEq] at hp
    obtain ⟨rfl,rfl⟩:=hp
    exact ⟨[],rfl,rfl,by simp,by simp,fun j v d h=>by simp at h⟩
  | (i, x) :: r, n, c, ds, hp => by
    unfold litView at hp
    cases hin:Nat.beq i n with
    | false=>rw [hin] at hp;cases hp
    | true =>
      rw [hin] at hp
      simp only [cond_true] at hp
      obtain rfl:=Nat.eq_of_beq_eq_true hin
      split at hp
      · rename_i c1 d1 c2 ds2 h1 h2
        cases hnt:(notTup d1&&Nat.beq d1.cells.length k) with
        | false=>rw [hnt] at hp;cases hp
        | true =>
          rw [hnt] at hp
          simp only [cond_true,Option.some.injEq,Prod.mk.injEq] at hp
          obtain ⟨rfl,rfl⟩:=hp
          simp only [Bool.and_eq_true] at hnt
          have hk:=Nat.eq_of_beq_eq_true hnt.2
          have hr:=viewAt_ok hw h h1
          have hnt':∀ us,d1≠.tup us:=fun us hu=>by subst hu;cases hnt.1
          obtain ⟨g1,g2,g3⟩:=hr.cells hnt'
          obtain ⟨vs,e1,e2,e3,e4,e5⟩:=litView_ok hw h r (i+1) c2 ds2 h2
          refine ⟨ev x :: vs,by simp [e1],by simp [e2],?_,?_,fun j v d hj hj'=>?_⟩
          · intro d hd
            rcases List.mem_cons.1 hd with rfl|hd
            · exact hk
            · exact e3 d hd
          · intro v hv
            rcases List.mem_cons.1 hv with rfl|hv
            · rw [g1,hk]
            · exact e4 v hv
          · cases j with
            | zero =>
              simp only [List.getElem?_cons_zero,Option.some.injEq] at hj hj'
              subst hj;subst hj'
              exact ⟨hr.weak (clsM_max1 c1 c2),hnt'⟩
            | succ j =>
              have:=e5 j v d (by simpa using hj) (by simpa using hj')
              exact ⟨this.1.weak (clsM_max2 c1 c2),this.2⟩
      · cases hp

theorem pure_lit {parts : Array (Nat × Operand)} {n : Nat} {ds : List AV} (ho : o.op = .buildSlice T n parts) (hT : P.underlying T = some (.slice e)) (hel : elOk P e k b = true) (hp : litView ρ ob k 0 parts.toList = some (c, ds))
    (hn:ds.length=n) (hn0:Nat.blt 0 n=true) (hsm:Nat.ble (n*k) 16777216=true) (hM0:∀ b,M0 b→b<w0.w.heap.size):Pure P w0 M0 o ρ ob (.v c (.sl ds)) :=
  pure_value fun E w ev hw h=>by
    obtain ⟨vs,e1,e2,e3,e4,e5⟩:=litView_ok hw h _ 0 c ds hp
    have hrun:=run_literal (P:=P) (w:=w) (n:=n) (ps:=parts.map fun (i,x)=>(i,ev x)) hT hel (by rw [Array.toList_map];exact e1) (by rw [e2,hn]) e4 (Nat.le_of_ble_eq_true hsm) (by simpa using hn0)
    refine ⟨_,_,by simp only [execOp,ho,Sem.run_bind,hrun,Result.andThen_ok,Sem.run_pure];rfl,(Below.refl _ _).alloc (Nat.le_refl _) _,?_⟩
    have hlen:=flatMap_cells_get vs ds e2 (fun j v d h1 h2=>((e5 j v d h1 h2).1.cells (e5 j v d h1 h2).2).1)
    have hrel:=flatMap_rel vs ds e2 e5
    have hfl:=flat_length ds e3
    have hb:BelowD w0.dr w.heap.size w (w.alloc (.cells (vs.flatMap fun v=>v.cells.toList).toArray e)):=(Below.refl _ _).alloc (Nat.le_refl _) _
    refine .sl _ n n ds k (fun j=>(vs.flatMap fun v=>v.cells.toList).getD j undef) hn (Nat.le_refl _) e3 (fun h0=>⟨w.heap.size,0,rfl,fun hM=>?_,by simp,fun j hj=>?_⟩) (fun j d hd=>(hrel j d hd).1) (fun j d hd=>((hrel j d hd).2).under hb)
    · cases c with
      | pl =>
        rcases hM with hM|hM
        · have:=hM0 _ hM;have:=hw.below.size;omega
        · have:=(hw.owned_range hM).2;omega
      | mx=>have:=(hw.owned_range hM).2;omega
      | vw=>exact hM
    · have hj' : j < (vs.flatMap fun v => v.cells.toList).length := by rw [hlen, hfl, hn]; exact hj
      rw [cell_of_row _ w.heap.size (0+j) _ e (0,0) (heap_alloc_new w _),Nat.zero_add]
      simp [List.getD_eq_getElem?_getD,List.getElem?_eq_getElem hj']

theorem step_lit {s:St} {t:Nat} {parts:Array (Nat×Operand)} {n:Nat} {ds:List AV} (ho:o.op=.buildSlice T n parts) (hd:o.dst=some t) (hn:Nat.blt t s.n=true) (hnd:Nodup s.s=true) (hT:P.underlying T=some (.slice e)) (hel:elOk P e k b=true)
    (hp:litView s.ev s.o k 0 parts.toList=some (.pl,ds)) (hnn:ds.length=n) (hn0:Nat.blt 0 n=true) (hsm:Nat.ble (n*k) 16777216=true) (hM0:∀ b,M0 b→b<w0.w.heap.size):Step P w0 M0 o s ((s.upd true t (.arr e ds)).put t (.own t)):=by
  rintro a w Q ⟨E,hs⟩
  obtain ⟨i,z,hi,hz,hsz,hby,hzs,hk0,hck⟩:=elOk_spec hel
  obtain ⟨vs,e1,e2,e3,e4,e5⟩:=litView_ok hs.wok (fun x e hx=>hs.ev hx) _ 0 .pl ds hp
  have hrun:=run_literal (P:=P) (w:=w) (n:=n) (ps:=parts.map fun (i,x)=>(i,a.eval x)) hT hel (by rw [Array.toList_map];exact e1) (by rw [e2,hnn]) e4 (Nat.le_of_ble_eq_true hsm) (by simpa using hn0)
  have hlen:=flatMap_cells_get vs ds e2 (fun j v d h1 h2=>((e5 j v d h1 h2).1.cells (e5 j v d h1 h2).2).1)
  have hrel:=flatMap_rel vs ds e2 e5
  have hfl:=flat_length ds e3
  unfold Oper.wp
  have hexec:(execOp a.eval o).run P w=.ok (.value (.slice (some ⟨w.heap.size,0,none⟩) n n)) (w.alloc (.cells (vs.flatMap fun v=>v.cells.toList).toArray e)):=by
    simp only [execOp,ho,Sem.run_bind,hrun,Result.andThen_ok,Sem.run_pure]
  rw [hexec]
  simp only [Oper.upon,hd]
  refine ⟨{ E with cur:=fun i=>if i=t then .slice (some ⟨w.heap.size,0,none⟩) n n else E.cur i },SimE.put ?_ (by simpa [St.upd] using hn) sv_own_new⟩
  refine hs.newArr hnd hM0 (World.grownBy_alloc w _ none) (fun _=>Nat.le_refl _) (vals:=vs.flatMap fun v=>v.cells.toList) ⟨by rw [hlen,hfl,hck],.inr ⟨w.heap.size,n,_,by rw [hnn],Nat.zero_le _,heap_alloc_new w _,by rw [hnn];exact Nat.le_refl _,?_,?_,?_⟩⟩ (fun b hb=>?_) (by rw [hck];exact e3) (fun j d hd=>⟨(hrel j d hd).1,.inl (hrel j d hd).2⟩)
  · have h1 := Nat.le_of_ble_eq_true hsm
    have h2:n≤n*k:=Nat.le_mul_of_pos_right n hk0
    simp only [maxLen];omega
  · rw [hck,List.size_toArray,hlen,hfl,hnn]
  · rw [hck, hnn]
    exact List.take_of_length_le (by rw [hlen,hfl,hnn];exact Nat.le_refl _)
  · simp only [Value.ownBlock,Option.some.injEq] at hb;omega
theorem step_lit0 {s:St} {t:Nat} {parts:Array (Nat×Operand)} (ho:o.op=.buildSlice T 0 parts) (hp:parts.toList=[]) (hd:o.dst=some t) (hn:Nat.blt t s.n=true) (hnd:Nodup s.s=true) (hT:P.underlying T=some (.slice e)) (hel:elOk P e k b=true)
    (hM0:∀ b,M0 b→b<w0.w.heap.size):Step P w0 M0 o s ((s.upd true t (.arr e [])).put t (.own t)):=by
  rintro a w Q ⟨E,hs⟩
  obtain ⟨i,z,hi,hz,hsz,hby,hzs,hk0,hck⟩:=elOk_spec hel
  have hp':parts=#[]:=by rw [← Array.toList_eq_nil_iff];exact hp
  subst hp'
  have hrun:(Instr.buildSlice T 0 #[]).run P w=.ok (.slice (some ⟨w.heap.size,0,none⟩) 0 0) (w.alloc (.cells #[] e)):=by
    have h0:Array.range 0=#[]:=rfl
    simp [Instr.buildSlice,run_underlying hT,sizeOf,typeInfo,hi,Instr.fill,newRow,h0]
    try rfl
  unfold Oper.wp
  have hexec:(execOp a.eval o).run P w=.ok (.value (.slice (some ⟨w.heap.size,0,none⟩) 0 0)) (w.alloc (.cells #[] e)):=by
    simp only [execOp,ho,Sem.run_bind,List.map_toArray,List.map_nil,hrun,Result.andThen_ok,Sem.run_pure]
  rw [hexec]
  simp only [Oper.upon,hd]
  refine ⟨{ E with cur:=fun i=>if i=t then .slice (some ⟨w.heap.size,0,none⟩) 0 0 else E.cur i },SimE.put ?_ (by simpa [St.upd] using hn) sv_own_new⟩
  refine hs.newArr hnd hM0 (World.grownBy_alloc w _ none) (fun _=>Nat.le_refl _) (vals:=[]) ⟨by simp,.inr ⟨w.heap.size,0,_,rfl,Nat.zero_le _,heap_alloc_new w _,Nat.le_refl _,by simp [maxLen],by simp,by simp⟩⟩ (fun b hb=>?_) (by simp) (fun j d hd=>by simp [flat] at hd)
  simp only [Value.ownBlock,Option.some.injEq] at hb;omega
end
end Go.Am

