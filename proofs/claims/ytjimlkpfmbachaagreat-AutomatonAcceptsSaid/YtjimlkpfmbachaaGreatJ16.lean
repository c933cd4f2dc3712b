/-
  Plain functions: the law on canonical automata,in the words of the program.
-/
import Derived.Test.YtjimlkpfmbachaaGreatJ15
import Derived.Test.YtjimlkpfmbachaaGreatJ14
set_option linter.unusedVariables false
set_option linter.unusedSectionVars false
set_option linter.unusedSimpArgs false
namespace Go.Am
open Go.RowKit
section
variable {P:Program} {w0:Fr} {M0:Nat→Prop} {ops:Array Oper}
def keyOk (t':Nat):SV→Bool
  | .v .vw _=>false
  | .v _ _=>true
  | .own j=>!(Nat.beq j t')
  | _=>false
theorem one_look {α:Type} {id i:Nat} {x y:α} (h:[(id,x)].lookup i=some y):i=id∧y=x:=by
  rw [lookup_cons'] at h
  split at h
  · rename_i e;simp only [Option.some.injEq] at h;exact ⟨e,h.symm⟩
  · simp at h
theorem one_self {α:Type} {id:Nat} {x:α}:[(id,x)].lookup id=some x:=by rw [lookup_cons',if_pos rfl]
theorem lookup_filter_sub {p:SV→Bool} {X:List (Nat×SV)} {u:Nat} {d:SV} (hnd:Nodup X=true) (h:(X.filter fun q=>p q.2).lookup u=some d):X.lookup u=some d :=
  lookup_of_nodup X u d hnd (List.mem_filter.1 (lookup_mem h)).1
theorem imp_ren {n id t t' : Nat} {e : TypeId} {xs : List AV} {X : List (Nat × SV)} (hnd : Nodup X = true) (hn : ∀ u d, X.lookup u = some d → u < n) (hk : ∀ u d, X.lookup u = some d → u ≠ t → keyOk t' d = true) :
    Imp P w0 M0 ⟨n,ins t (.own id) (X.filter fun p=>p.2.safe [id]),[(id,.arr e xs)]⟩ ⟨n,ins t (.own t') X,[(t',.arr e xs)]⟩:=by
  rintro a w ⟨E,hs⟩
  have hcur:∀ (E':Env),E'={ E with cur:=fun i=>if i=t' then E.cur id else E.cur i }→E'.cur t'=E.cur id:=fun E' h=>by rw [h];simp
  generalize hE:({ E with cur:=fun i=>if i=t' then E.cur id else E.cur i }:Env)=E'
  have hc:=hcur E' hE.symm
  have hblk:E'.blk=E.blk:=by rw [← hE]
  have hown:∀ b,owned E' [(t',Ob.arr e xs)] b→owned E [(id,Ob.arr e xs)] b:=fun b ⟨i,ob,h1,h2⟩=>by
    obtain ⟨rfl,rfl⟩:=one_look h1
    exact ⟨id,_,one_self,by simpa only [ownB,hc] using h2⟩
  refine ⟨E',hs.size,hs.defers,fun u d hu=>?_,fun i ob h=>?_,fun i ob i' ob' b h1 h2 _ _=>?_,hs.wok.below,fun x hx=>by rw [hblk];exact hs.wok.pins x hx⟩
  · rw [lookup_ins] at hu
    split at hu
    · rename_i hut
      subst hut
      simp only [Option.some.injEq] at hu
      subst hu
      have h1:=hs.slots u (.own id) (by rw [lookup_ins,if_pos rfl])
      refine ⟨h1.1,fun e' xs' h=>?_⟩
      obtain ⟨_,h⟩:=one_look h
      rw [hc]
      exact h1.2 e xs one_self
    · rename_i hut
      refine ⟨hn u d hu,?_⟩
      have hq:=hk u d hu hut
      cases d with
      | v c d =>
        have hsafe:(SV.v c d).safe [id]=true:=by cases c<;>first|rfl|(cases hq)
        have h1:=(hs.slots u (.v c d) (by rw [lookup_ins,if_neg hut];exact lookup_keeps (fun e=>e.safe [id]) X u _ hnd hu hsafe)).2
        exact Rep.weak h1 (clsM_mono hown c)
      | own j =>
        intro e' xs' h
        obtain ⟨h,_⟩:=one_look h
        subst h
        simp [keyOk] at hq
      | _=>cases hq
  · obtain ⟨rfl, rfl⟩ := one_look h
    obtain ⟨vals,h1,h2,h3⟩:=hs.wok.objs id _ one_self
    exact ⟨vals,by rw [hc];exact h1,h2,fun j d hj=>⟨(h3 j d hj).1,(h3 j d hj).2.weak (clsM_mono hown .pl)⟩⟩
  · exact (one_look h1).1.trans (one_look h2).1.symm
theorem step_keyD {o:Oper} {f u v t t' id n:Nat} {ats:Array TypeId} {X G:List (Nat×SV)} {e:TypeId} {xs ys:List AV} {dd:AV} (ho:o.op=.call { callee:=.value (.func f),args:=#[.tmp u,.tmp v],argTypes:=ats }) (hd:o.dst=some t) (hn:Nat.blt t n=true) (hnd:Nodup X=true)
    (hu:X.lookup u=some (.own id)) (hv:X.lookup v=some (.v .pl dd)) (h:CallO P f [.own 0,.v .pl dd] [(0,.arr e xs)] (.own 0) [(0,.arr e ys)]) (hGt:G.lookup t=some (.own t')) (hn':∀ u d,X.lookup u=some d→u<n) (hk:∀ u d,X.lookup u=some d→u≠t→keyOk t' d=true) (hM0:∀ b,M0 b→b<w0.w.heap.size) :
    ∃ s',Step P w0 M0 o ⟨n,X,[(id,.arr e xs)]⟩ s'∧Imp P w0 M0 s' ⟨n,aftS G X o,[(t',.arr e ys)]⟩:=by
  refine ⟨_,step_callO (s:=⟨n,X,[(id,.arr e xs)]⟩) (t:=t) (caps:=[]) (svs:=[.own id,.v .pl dd]) [(0,id)] ho hd hn hnd rfl rfl ?_ h ⟨.inl rfl,.inl rfl,trivial⟩ ⟨one_self,trivial⟩ rfl rfl rfl rfl rfl hM0,?_⟩
  · show evs ⟨n, X, _⟩ [.tmp u, .tmp v] = _
    unfold evs evs evs
    simp only [St.ev,hu,hv]
  · have e1 : aftS G X o = ins t (.own t') X := by unfold aftS; rw [hd]; simp only [hGt]
    rw [e1]
    have e2:((⟨n,X,[(id,.arr e xs)]⟩:St).after [(0,id)] [(0,.arr e ys)]).put t ((SV.own 0).ren [(0,id)])=⟨n,ins t (.own id) (X.filter fun p=>p.2.safe [id]),[(id,.arr e ys)]⟩:=by
      unfold St.after St.put
      simp [newO,idsO,rn,SV.ren,Ob.ren,lookup_cons']
    rw [e2]
    exact imp_ren hnd hn' hk
theorem all_lt {G:List (Nat×SV)} {n:Nat} (h:(G.all fun p=>Nat.blt p.1 n)=true) {u:Nat} {d:SV} (hl:G.lookup u=some d):u<n:=by simpa using List.all_eq_true.1 h _ (lookup_mem hl)
theorem all_key {G:List (Nat×SV)} {t t':Nat} (h:(G.all fun p=>keyOk t' p.2||Nat.beq p.1 t)=true) {u:Nat} {d:SV} (hl:G.lookup u=some d) (hne:u≠t):keyOk t' d=true:=by
  have:=List.all_eq_true.1 h _ (lookup_mem hl)
  rw [Bool.or_eq_true] at this
  rcases this with h1|h1
  · exact h1
  · exact absurd (Nat.eq_of_beq_eq_true h1) hne
def effH (a b c i:Nat):Bool:=Nat.beq i a||(Nat.beq i b||Nat.beq i c)
theorem code_drawH {id : Nat} {n : Nat} {s0 : List (Nat × SV)} {o1 om on o2 : List (Nat × Ob)} (a b c k : Nat) (G : List (Nat × SV)) {Q' : Exit → St → Prop} (hm : P.follows .mixedOrders = true) (hok : drawOk ops = true) (htl : phaseOk ops k = true) (hmid : midOkG ops n k (effH a b c) = true) (hks : Nat.ble k ops.size = true) (hck : Nat.blt c k = true)
    (hab:(ancs ops ops.size b).contains a=true) (hbc:(ancs ops ops.size c).contains b=true) (hac:(ancs ops ops.size c).contains a=true) (hne:(Nat.beq a b||(Nat.beq a c||Nat.beq b c))=false)
    (hG:∀ t d,(G.filter fun p=>keepL ops k #[] p.1).lookup t=some d→s0.lookup t=some d) (hnd:Nodup G=true)
    (hset:∀ i t,i<k→(ops[i]?).bind (·.dst)=some t→∃ d,G.lookup t=some d)
    (hP:∀ i o t d,i<k→i≠a→i≠b→i≠c→ops[i]?=some o→o.dst=some t→G.lookup t=some d→∀ ob,Pure P w0 M0 o (restr ops o (St.ev ⟨n,G,ob⟩)) ob d)
    (hA:∀ o X,ops[a]?=some o→Nodup X=true→(∀ t d,X.lookup t=some d→G.lookup t=some d)→(∀ t,t∈looks ops o→X.lookup t=G.lookup t)→∃ s',Step P w0 M0 o ⟨n,X,o1⟩ s'∧Imp P w0 M0 s' ⟨n,aftS G X o,om⟩)
    (hB:∀ o X,ops[b]?=some o→Nodup X=true→(∀ t d,X.lookup t=some d→G.lookup t=some d)→(∀ t,t∈looks ops o→X.lookup t=G.lookup t)→∃ s',Step P w0 M0 o ⟨n,X,om⟩ s'∧Imp P w0 M0 s' ⟨n,aftS G X o,on⟩)
    (hC:∀ o X,ops[c]?=some o→Nodup X=true→(∀ t d,X.lookup t=some d→G.lookup t=some d)→(∀ t,t∈looks ops o→X.lookup t=G.lookup t)→∃ s',Step P w0 M0 o ⟨n,X,on⟩ s'∧Imp P w0 M0 s' ⟨n,aftS G X o,o2⟩)
    (hend:EndL P w0 M0 ops (fun s=>∃ s',Imp P w0 M0 s s'∧Q' .normal s') k ⟨n,G,o2⟩):CodeOk P w0 M0 (.region id ops true) ⟨n,s0,o1⟩ Q':=by
  obtain ⟨hns,hsp⟩:=drawOk_spec hok
  have hlt:∀ i o,ops[i]?=some o→∀ j∈preds o,j<i:=fun i o ho=>(hsp i o ho).1
  have hks':=Nat.le_of_ble_eq_true hks
  have hck':c<k:=by simpa using hck
  simp only [Bool.or_eq_false_iff] at hne
  have nab:a≠b:=fun e=>by rw [e,Nat.beq_refl] at hne;cases hne.1
  have nac:a≠c:=fun e=>by rw [e,Nat.beq_refl] at hne;cases hne.2.1
  have nbc:b≠c:=fun e=>by rw [e,Nat.beq_refl] at hne;cases hne.2.2
  have hab':a∈ancs ops ops.size b:=List.contains_iff_mem.1 hab
  have hbc':b∈ancs ops ops.size c:=List.contains_iff_mem.1 hbc
  have hac':a∈ancs ops ops.size c:=List.contains_iff_mem.1 hac
  have down:∀ {L:Array Bool} {i:Nat},Closed ops L→L.size=ops.size→L.getD i false=true→∀ j,j∈ancs ops ops.size i→L.getD j false=true:=fun {L i} hc hsz hL j hj=>by
    have hi:i<ops.size:=by
      rcases Nat.lt_or_ge i ops.size with q|q
      · exact q
      · exfalso
        have:L.getD i false=false:=by simp [show ¬ i<L.size by omega]
        rw [hL] at this;cases this
    have hio:ops[i]?=some ops[i]:=Array.getElem?_eq_getElem hi
    exact ancs_listed hc ops.size i ops[i] hio (fun q hq=>hc i _ hio hL q hq) hlt j hj
  have notyet:∀ {L:Array Bool} {i j:Nat},Closed ops L→L.size=ops.size→L.getD i false=false→i∈ancs ops ops.size j→L.getD j false=false:=fun {L i j} hc hsz hL hj=>by
    cases hq:L.getD j false with
    | false=>rfl
    | true=>have:=down hc hsz hq i hj;rw [hL] at this;cases this
  let oL:Array Bool→List (Nat×Ob):=fun L=>if L.getD c false then o2 else if L.getD b false then on else if L.getD a false then om else o1
  refine code_drawG (eff:=effH a b c) (oL:=oL) (o2:=o2) k G hm hok htl hmid hks hG hnd hset (fun L hL=>?_) (fun L hL=>?_) (fun L i o t d hL hc hanc hLi hik hef ho hd hGd=>?_) (fun L i o X hL hc hanc hLi hik hef ho hX hXG hXr=>?_) hend
  · simp only [oL]
    rw [if_neg (by rw [hL c];decide),if_neg (by rw [hL b];decide),if_neg (by rw [hL a];decide)]
  · simp only [oL]
    rw [if_pos (hL c hck')]
  · simp only [effH, Bool.or_eq_false_iff] at hef
    have hia:i≠a:=fun e=>by rw [e,Nat.beq_refl] at hef;cases hef.1
    have hib:i≠b:=fun e=>by rw [e,Nat.beq_refl] at hef;cases hef.2.1
    have hic:i≠c:=fun e=>by rw [e,Nat.beq_refl] at hef;cases hef.2.2
    have his:i<ops.size:=(Array.getElem?_eq_some_iff.1 ho).1
    refine ⟨hP i o t d hik hia hib hic ho hd hGd _,?_⟩
    simp only [oL]
    rw [getD_set (by omega),if_neg (Ne.symm hic),getD_set (by omega),if_neg (Ne.symm hib),getD_set (by omega),if_neg (Ne.symm hia)]
  · have his : i < ops.size := (Array.getElem?_eq_some_iff.1 ho).1
    by_cases hic:i=c
    · subst hic
      have hLb:L.getD b false=true:=hanc b hbc'
      have e1:oL L=on:=by simp only [oL];rw [if_neg (by rw [hLi];decide),if_pos hLb]
      have e2:oL (L.setIfInBounds i true)=o2:=by simp only [oL];rw [getD_set (by omega),if_pos rfl,if_pos rfl]
      rw [e1,e2]
      exact hC o X ho hX hXG hXr
    · by_cases hib : i = b
      · subst hib
        have hLa:L.getD a false=true:=hanc a hab'
        have hLc:=notyet hc hL hLi hbc'
        have e1:oL L=om:=by simp only [oL];rw [if_neg (by rw [hLc];decide),if_neg (by rw [hLi];decide),if_pos hLa]
        have e2:oL (L.setIfInBounds i true)=on:=by simp only [oL];rw [getD_set (by omega),if_neg (Ne.symm hic),if_neg (by rw [hLc];decide),getD_set (by omega),if_pos rfl,if_pos rfl]
        rw [e1,e2]
        exact hB o X ho hX hXG hXr
      · have hia : i = a := by
          unfold effH at hef
          rw [Bool.or_eq_true,Bool.or_eq_true] at hef
          rcases hef with h|h|h
          · exact Nat.eq_of_beq_eq_true h
          · exact absurd (Nat.eq_of_beq_eq_true h) hib
          · exact absurd (Nat.eq_of_beq_eq_true h) hic
        subst hia
        have hLb:=notyet hc hL hLi hab'
        have hLc:=notyet hc hL hLi hac'
        have e1:oL L=o1:=by simp only [oL];rw [if_neg (by rw [hLc];decide),if_neg (by rw [hLb];decide),if_neg (by rw [hLi];decide)]
        have e2:oL (L.setIfInBounds i true)=om:=by
          simp only [oL]
          rw [getD_set (by omega),if_neg (Ne.symm hic),if_neg (by rw [hLc];decide),getD_set (by omega),if_neg (Ne.symm hib),if_neg (by rw [hLb];decide),getD_set (by omega),if_pos rfl,if_pos rfl]
        rw [e1,e2]
        exact hA o X ho hX hXG hXr
theorem code_ren {n id t t':Nat} {e:TypeId} {xs:List AV} {X:List (Nat×SV)} {y:Code} {Q:Exit→St→Prop} (hnd:Nodup X=true) (hX:X.lookup t=some (.own id)) (hn:∀ u d,X.lookup u=some d→u<n) (hk:∀ u d,X.lookup u=some d→u≠t→keyOk t' d=true) (hk2:∀ u d,X.lookup u=some d→u≠t→d.safe [id]=true)
    (h:CodeOk P w0 M0 y ⟨n,ins t (.own t') X,[(t',.arr e xs)]⟩ Q):CodeOk P w0 M0 y ⟨n,X,[(id,.arr e xs)]⟩ Q :=
  CodeOk.imp (Imp.trans (imp_slots (s':=⟨n,ins t (.own id) (X.filter fun p=>p.2.safe [id]),[(id,.arr e xs)]⟩) rfl rfl fun u d hu=>by
    have hu:(ins t (SV.own id) (X.filter fun p=>p.2.safe [id])).lookup u=some d:=hu
    show X.lookup u=some d
    rw [lookup_ins] at hu
    split at hu
    · rename_i e;subst e;rw [hX];assumption
    · exact lookup_filter_sub hnd hu) (imp_ren hnd hn hk)) h
end
end Go.Am

namespace Go.Am
open Go.RowKit Go.MapKept Go.ChangeMaps
section
variable {P:Program} {w0:Fr} {M0:Nat→Prop}
variable {o:Oper} {ρ:Operand→Option SV} {ob:List (Nat×Ob)} {x y z:Operand} {T T' e:TypeId} {k b:Nat} {c:Cls} {id off:Nat} {s:St} {t:Nat} {ks:List Value} {vs:List AV} {kt et:TypeId} {kd:TypeDesc} {cs:List SV}
theorem one_omap {j:Nat} (hy:s.ev y=some (.omap j)) (hj:s.o.lookup j=some (.mp ks vs)):∀ (E:Env) (a:Act) (w:World),SimE P w0 M0 E s a w→(a.eval y).oneCell'=true:=fun E a w hs=>by
  have:=hs.ev hy ks vs hj;rw [this];rfl
theorem one_fn {f:FuncId} {caps:List Cap} (hy:s.ev y=some (.fn f caps)):∀ (E:Env) (a:Act) (w:World),SimE P w0 M0 E s a w→(a.eval y).oneCell'=true:=fun E a w hs=>by
  obtain ⟨vs,h,_⟩:=hs.ev hy;rw [h];rfl
theorem step_store_box_sv {d1:SV} (ho:o.op=.store T x y) (hd:o.dst=none) (hnd:Nodup s.s=true) (hk:szOf P T=some 1) (hx:s.ev x=some (.pbox id off)) (hl:s.o.lookup id=some (.box e cs)) (hy:s.ev y=some d1) (hlf:d1.leaf=true) (hst:d1.stays false id=true)
    (hone:∀ (E:Env) (a:Act) (w:World),SimE P w0 M0 E s a w→(a.eval y).oneCell'=true) (hle:Nat.ble (off+1) cs.length=true) (hM0:∀ b,M0 b→b<w0.w.heap.size):Step P w0 M0 o s (s.upd false id (.box e (spl (keepC id cs) off [d1]))):=by
  rintro a w Q ⟨E,hs⟩
  have hle':=Nat.le_of_ble_eq_true hle
  have hxv:=hs.ev hx e cs hl
  have hyv:=hs.ev hy
  have h1c:=hone E a w hs
  generalize hu:a.eval y=u at hyv h1c
  have hcells:u.cells=#[u]:=by cases u<;>simp_all [Value.cells,Value.oneCell']
  obtain ⟨vals,h1,h2,h3,h4⟩:=hs.wok.objs id _ hl
  have hrun:=run_storeVar (P:=P) (w:=w) (v:=u) (p:=off) hk (by rw [hcells];rfl) h1 (by simp;omega) (by rw [hcells];simpa using h1c)
  unfold Oper.wp
  have hexec:(execOp a.eval o).run P w=.ok .skip (w.setRow (E.blk id) (spl vals off [u]).toArray):=by
    rw [hcells] at hrun
    simp [execOp,ho,hxv,hu,Instr.storeAt,Instr.sureAddr,hrun]
  rw [hexec]
  simp only [Oper.upon,hd,Act.put]
  have hspl:off+[u].length≤vals.length:=by simp;omega
  refine ⟨E,hs.upd false (fun _=>⟨rfl,.inr (.inl ⟨e,cs,_,hl,rfl⟩)⟩) hnd hM0 (fun i hi=>⟨rfl,rfl⟩) (.inr rfl) (some (E.blk id)) setRow_grown (fun _=>Nat.le_refl _) (fun g hg=>⟨_,hl,by simpa [ownB] using hg⟩) (fun b hb=>.inl ⟨_,hl,hb⟩) (fun rep sv=>?_)⟩
  refine ⟨_,setRow_heap w _ _ _ e _ h1,h2,?_,fun j' d hj'=>?_⟩
  · rw [spl_length hspl,spl_length (by simp [keepC];omega)];simp [keepC,h3]
  · rw [spl_get (by simp [keepC]; omega)] at hj'
    rw [List.getD_eq_getElem?_getD,spl_get hspl]
    simp only [List.length_singleton] at hj' ⊢
    split at hj'
    · rename_i hin
      rw [if_pos hin]
      have hz:j'-off=0:=by omega
      rw [hz] at hj' ⊢
      simp only [List.getElem?_cons_zero,Option.some.injEq] at hj'
      subst hj'
      simp only [List.getElem?_cons_zero,Option.getD_some]
      exact ⟨hlf,h1c,sv _ _ hyv hst⟩
    · rename_i hin
      rw [if_neg hin]
      simp only [keepC,List.getElem?_map,Option.map_eq_some_iff] at hj'
      obtain ⟨d0,hd0,rfl⟩:=hj'
      have:=h4 j' d0 hd0
      rw [List.getD_eq_getElem?_getD] at this
      split
      · exact ⟨this.1,this.2.1,sv _ _ this.2.2 ‹_›⟩
      · exact ⟨rfl,this.2.1,trivial⟩
theorem pure_mlook_hit {key:Value} {a0:AV} {j:Nat} (ho:o.op=.lookup T x y false) (hT:P.underlying T=some (.map kt et)) (hkd:P.underlying kt=some kd) (hx:ρ x=some (.omap id)) (hl:ob.lookup id=some (.mp ks vs)) (hy:scal ρ y=some key) (hk:IsKey kd key) (hks:∀ q∈ks,IsKey kd q)
    (hp:kpos ks key=some j) (ha:vs[j]?=some a0):Pure P w0 M0 o ρ ob (.v .pl a0) :=
  pure_value fun E w ev hw h=>by
    have hyv:ev y=key:=scal_ok h hy
    have hxv:=h x _ hx ks vs hl
    obtain ⟨es,clock,h1,h2,h3,h4,h5⟩:=hw.objs id _ hl
    have hes:∀ u∈es.toList,IsKey kd u.key:=fun u hu=>hks _ (by rw [← h3];exact List.mem_map_of_mem hu)
    have hf:=findNow_kpos hk es.toList 0 hes
    rw [h3,hp] at hf
    refine ⟨(es.toList.map fun x:MapEntry=>x.val).getD j undef,w,?_,.refl _ _,h5 j a0 ha⟩
    have:(Instr.lookup T (.map (some (E.blk id))) key false).run P w=.ok ((es.toList.map (·.val)).getD j undef) w:=by
      simp [Instr.lookup,run_underlying hT,MapKept.run_getObj_map h1,run_checkKey hkd hk,run_findKey hkd hf,Result.andThen]
    simp [execOp,ho,hyv,hxv,this]
def endOC2 (t k u:Nat) (r r':AV) (o':List (Nat×Ob)):Exit→St→Prop
  | .normal,s|.ret,s=>((s.s.lookup t).bind (boxV s.o k)=some (.v .pl r)∧s.s.lookup u=some (.v .pl r'))∧∀ id ob,o'.lookup id=some ob→s.o.lookup id=some ob
  | _,_=>False
theorem callO_of_codeC2 {f n t k u : Nat} {T : TypeId} {c : Code} (hf : FnC2 P f n t T k u c) {args : List SV} {o o' : List (Nat × Ob)} {r r' : AV} (hn : args.length ≤ n)
    (h:∀ (w0:Fr) (M0:Nat→Prop),(∀ b,M0 b→b<w0.w.heap.size)→CodeOk P w0 M0 c (St.enterS n args o) (endOC2 t k u r r' o')):CallO P f args o (.v .pl (.tup [r,r'])) o':=by
  refine ⟨hf.callable,fun w0 M0 E w vs hM0 hw hv hr=>?_⟩
  obtain ⟨fn,h1,h2,h3,h4,h5,h6,h7⟩:=hf
  refine (calls_coreG h1 h2 h3 (R:=fun v E' s' w'=>WOk P w0 M0 E' o' w'∧SVok P M0 w' E' o' v (.v .pl (.tup [r,r']))) hn vs hv hw hr (h w0 M0 hM0) (fun e s' a' w' E' hq hs=>?_)).mono fun e w' ⟨v,E',s',he,hR⟩=>⟨v,E',he,hR⟩
  have fin:(((s'.s.lookup t).bind (boxV s'.o k)=some (.v .pl r)∧s'.s.lookup u=some (.v .pl r'))∧∀ id ob,o'.lookup id=some ob→s'.o.lookup id=some ob)→∃ v,(results fn a'.tmps).run P w'=.ok v w'∧WOk P w0 M0 E' o' w'∧SVok P M0 w' E' o' v (.v .pl (.tup [r,r'])):=fun ⟨⟨hb,hlu⟩,q2⟩=>by
    rw [Option.bind_eq_some_iff] at hb
    obtain ⟨sv,hl,hb⟩:=hb
    obtain ⟨v,g1,g2⟩:=run_load_box_agg h6 h7 hs.wok (hs.slots t sv hl).2 hb
    have r1:Rep w' _ v r:=g2.fewer q2
    have r2:Rep w' _ (a'.tmps.getD u undef) r':=(hs.slots u _ hlu).2.fewer q2
    refine ⟨.tuple #[v,a'.tmps.getD u undef],?_,hs.wok.fewer q2,?_⟩
    · have g1' : ((Sem.run P (asAddr (a'.tmps[t]?.getD undef)) w').andThen fun x w => Sem.run P (loadVar T x) w) = .ok v w' := by simpa using g1
      simp [results,h4,Sem.run_bind]
      revert g1'
      cases Sem.run P (asAddr (a'.tmps[t]?.getD undef)) w' with
      | ok a w2=>intro g;simp only [Result.andThen_ok] at g ⊢;rw [g];rfl
      | _=>intro g;exact absurd g (by simp [Result.andThen])
    · exact Rep.tup [v,a'.tmps.getD u undef] [r,r'] rfl (fun j d hd=>by
        match j,hd with
        | 0,hd=>simp at hd;subst hd;exact r1
        | 1,hd=>simp at hd;subst hd;exact r2
        | j+2,hd=>simp at hd)
  cases e with
  | normal=>exact ⟨.inl rfl,fin hq⟩
  | ret=>exact ⟨.inr rfl,fin hq⟩
  | exit _=>exact hq.elim
  | goto _=>exact hq.elim
  | panic _=>exact hq.elim
  | outgrown=>exact hq.elim
theorem endOC2_ret {t k u:Nat} {r r' r1 r2:AV} {o' o1:List (Nat×Ob)} {s:St} (h:(s.s.lookup t).bind (boxV s.o k)=some (.v .pl r1)) (h':s.s.lookup u=some (.v .pl r2)) (ho:HasO s o1) (e:(r1=r∧r2=r')∧o1=o'):endOC2 t k u r r' o' .ret s:=by
  obtain ⟨⟨rfl,rfl⟩,rfl⟩:=e
  exact ⟨⟨h,h'⟩,ho.out⟩
theorem callF_of_callO_nil {f:FuncId} {e:TypeId} {l:List Int} {d:AV} (h:CallO P f [.own 0,.v .pl d] [(0,.arr e [])] (.own 0) [(0,.arr e (l.map byteI))]):CallF P f [.sc (.slice none 0 0),d] (.fresh e (l.map byteI)):=by
  refine ⟨h.1,fun w vs hv hr=>?_⟩
  have hv0:vs.getD 0 undef=.slice none 0 0:=by
    have:=hr 0 _ rfl
    generalize vs.getD 0 undef=u at this ⊢
    cases this;rfl
  have hno:∀ b,¬ owned (⟨fun _=>.slice none 0 0,fun _=>0,fun _ _=>undef⟩:Env) [(0,.arr e [])] b:=fun b ⟨i,obx,h1,h2⟩=>by
    obtain ⟨_,rfl⟩:=one_look h1
    cases h2
  refine (h.2 (Fr.all w) (fun _=>False) ⟨fun _=>.slice none 0 0,fun _=>0,fun _ _=>undef⟩ w vs (fun b hb=>hb.elim) ⟨fun i obx hi=>?_,fun i ob i' ob' b h1 h2 _ _=>(one_look h1).1.trans (one_look h2).1.symm,Keep.refl _ _,fun x hx=>by cases hx⟩ hv (fun j dd hj=>?_)).mono fun ee w' ⟨v,E',he,hw',hsv⟩=>?_
  · obtain ⟨rfl, rfl⟩ := one_look hi
    refine ⟨[],⟨World.ownsRow_nil w _ _ _,fun b hb=>(by cases hb)⟩,fun x hx=>(by cases hx),fun j d hd=>(by simp [flat] at hd)⟩
  · match j, hj with
    | 0, hj =>
      simp only [List.getElem?_cons_zero,Option.some.injEq] at hj
      subst hj
      intro e' xs _
      exact hv0
    | 1, hj =>
      simp only [List.getElem?_cons_succ,List.getElem?_cons_zero,Option.some.injEq] at hj
      subst hj
      exact (hr 1 _ rfl).mono (Nat.le_refl _) (fun _ _ _=>rfl) (fun b _ _ hb=>hb.elim (fun h=>h) (fun h=>hno b h))
    | j+2,hj=>simp at hj
  · have hvv : v = E'.cur 0 := hsv e _ one_self
    obtain ⟨vals,h1,h2,h3⟩:=hw'.objs 0 _ one_self
    refine ⟨v,he,hw'.below.below,vals,⟨by rw [hvv];exact h1.1,fun b hb=>(h1.2 b (by rw [← hvv];exact hb)).1⟩,h2,fun j d hj=>⟨(h3 j d hj).1,?_⟩⟩
    have h4:=(h3 j d hj).2
    have hd:∃ n,d=byteI n:=by
      have hm:=List.mem_of_getElem? hj
      rw [show flat (l.map byteI)=l.map byteI from flat_sc _ l,List.mem_map] at hm
      obtain ⟨n,_,rfl⟩:=hm
      exact ⟨n,rfl⟩
    obtain ⟨n,rfl⟩:=hd
    generalize vals.getD j undef=u at h4 ⊢
    cases h4 with|sc _ h5=>exact .sc _ h5
theorem step_callOD {X G:List (Nat×SV)} {o1 oc:List (Nat×Ob)} {n u v f:Nat} {ats:Array TypeId} {dd r:AV} {cp:List Cap} {cs:List SV} (ho:o.op=.call { callee:=.value (.tmp u),args:=#[.tmp v],argTypes:=ats }) (hd:o.dst=some t) (hn:Nat.blt t n=true) (hnd:Nodup X=true)
    (hu:X.lookup u=some (.fn f cp)) (hv:X.lookup v=some (.v .pl dd)) (hcs:calleeOf (.fn f cp)=some (f,cs)) (h:CallO P f (.v .pl dd :: cs) oc (.v .pl r) oc) (hcr:∀ c∈cs,c.ren []=c) (hob:HasRen ⟨n,X,o1⟩ [] oc) (hinj:nodupN (idsO [] oc)=true)
    (hbig:oc.all (fun p=>Nat.beq p.2.kind 0||Nat.ble 1000000 p.1)=true) (hpl:oc.all (fun p=>p.2.plain (oc.map (·.1)))=true) (hGt:G.lookup t=some (.v .pl r)) (hs:∀ t' d,X.lookup t'=some d→t'≠t→d.safe (idsO [] oc)=true) (hao:(o1.map fun p=>(p.1,((newO [] oc).lookup p.1).getD (p.2.after (idsO [] oc))))=o1) (hM0:∀ b,M0 b→b<w0.w.heap.size) :
    ∃ s',Step P w0 M0 o ⟨n,X,o1⟩ s'∧Imp P w0 M0 s' ⟨n,aftS G X o,o1⟩:=by
  have hargs:∀ (l:List SV),(∀ c∈l,c.ren []=c)→ArgsOk ⟨n,X,o1⟩ [] (idsO [] oc) l l:=by
    intro l
    induction l with
    | nil=>intro _;trivial
    | cons c l ih=>intro hl;exact ⟨.inl (hl c List.mem_cons_self).symm,ih fun c hc=>hl c (List.mem_cons_of_mem _ hc)⟩
  refine ⟨_,step_callO (s:=⟨n,X,o1⟩) (t:=t) (dc:=.fn f cp) (caps:=cs) (svs:=[.v .pl dd]) [] ho hd hn hnd hu hcs ?_ h ⟨.inl rfl,hargs cs hcr⟩ hob hinj rfl hbig hpl rfl hM0,?_⟩
  · show evs ⟨n, X, _⟩ [.tmp v] = _
    unfold evs evs
    simp only [St.ev,hv]
  · have e1 : aftS G X o = ins t (.v .pl r) X := by unfold aftS; rw [hd]; simp only [hGt]
    rw [e1]
    refine imp_slots rfl hao.symm fun t' d ht'=>?_
    show (ins t (SV.v .pl r) (X.filter fun p=>p.2.safe (idsO [] oc))).lookup t'=some d
    have ht':(ins t (SV.v .pl r) X).lookup t'=some d:=ht'
    rw [lookup_ins] at ht' ⊢
    by_cases q:t'=t
    · rw [if_pos q] at ht' ⊢;exact ht'
    · rw [if_neg q] at ht' ⊢
      exact lookup_safe _ X t' d hnd ht' (hs t' d ht' q)
theorem code_draw1e {ops:Array Oper} {id:Nat} {n:Nat} {s0:List (Nat×SV)} {o1:List (Nat×Ob)} (a k:Nat) (G:List (Nat×SV)) {Q':Exit→St→Prop} (hm:P.follows .mixedOrders=true) (hok:drawOk ops=true) (htl:phaseOk ops k=true) (hmid:midOkG ops n k (Nat.beq a)=true) (hks:Nat.ble k ops.size=true)
    (hG:∀ t d,(G.filter fun p=>keepL ops k #[] p.1).lookup t=some d→s0.lookup t=some d) (hnd:Nodup G=true)
    (hset:∀ i t,i<k→(ops[i]?).bind (·.dst)=some t→∃ d,G.lookup t=some d)
    (hP:∀ i o t d,i<k→i≠a→ops[i]?=some o→o.dst=some t→G.lookup t=some d→Pure P w0 M0 o (restr ops o (St.ev ⟨n,G,o1⟩)) o1 d)
    (hA:∀ o X,ops[a]?=some o→Nodup X=true→(∀ t d,X.lookup t=some d→G.lookup t=some d)→(∀ t,t∈looks ops o→X.lookup t=G.lookup t)→∃ s',Step P w0 M0 o ⟨n,X,o1⟩ s'∧Imp P w0 M0 s' ⟨n,aftS G X o,o1⟩)
    (hend:EndL P w0 M0 ops (fun s=>∃ s',Imp P w0 M0 s s'∧Q' .normal s') k ⟨n,G,o1⟩):CodeOk P w0 M0 (.region id ops true) ⟨n,s0,o1⟩ Q':=by
  refine code_drawG (eff:=Nat.beq a) (oL:=fun _=>o1) (o2:=o1) k G hm hok htl hmid hks hG hnd hset (fun L hL=>rfl) (fun L hL=>rfl) (fun L i o t d hL hc hanc hLi hik hef ho hd hGd=>⟨?_,rfl⟩) (fun L i o X hL hc hanc hLi hik hef ho hX hXG hXr=>?_) hend
  · exact hP i o t d hik (fun e=>by rw [e,Nat.beq_refl] at hef;cases hef) ho hd hGd
  · obtain rfl : a = i := Nat.eq_of_beq_eq_true hef
    exact hA o X ho hX hXG hXr
end
end Go.Am

namespace Go.Am
open Go.RowKit Go.MapKept Go.ChangeMaps
theorem keyOf_pair {P:Program} {k e:TypeId} {n:Nat} (hk:P.underlying k=some (.array 2 e)) (he:P.underlying e=some (.int .i64)) (hc:szOf P k=some 2) (hce:szOf P e=some 1) (hkt:P.keyType k=true) (hsz:P.types.size=n+1) {a b:Int}
    (ha:(Lit.int .i64 a).wf=true) (hb:(Lit.int .i64 b).wf=true):∃ l,keyOf P k (.agg #[.int .i64 a,.int .i64 b])=some l:=by
  have h1:=cellsOf_of hc
  have h2:=cellsOf_of hce
  have hf:Value.formed P k (.agg #[.int .i64 a,.int .i64 b])=true:=by simp [Value.formed,hk,h1]
  have hl:∀ (d:Nat) (z:Int),(Lit.int .i64 z).wf=true→P.keyLits (d+1) e [.int .i64 z]=some [.int .i64 z]:=fun d z hz=>by
    unfold Program.keyLits
    simp [he,hz]
  refine ⟨.string (keyBytes [.int .i64 a,.int .i64 b]),?_⟩
  unfold keyOf
  rw [hk]
  simp only [hkt,hf,Bool.and_self,if_true,hsz]
  have:P.keyLits (n+1+1) k (Value.agg #[.int .i64 a,.int .i64 b]).cells.toList=some [.int .i64 a,.int .i64 b]:=by
    unfold Program.keyLits
    simp [hk,Value.cells,h1,h2,List.range_succ,hl n a ha,hl n b hb]
  rw [this];rfl
section
variable {P:Program} {w0:Fr} {M0:Nat→Prop}
variable {o:Oper} {ρ:Operand→Option SV} {ob:List (Nat×Ob)} {x y z:Operand} {T T' e:TypeId} {k b:Nat} {c:Cls} {id off:Nat} {s:St} {t:Nat}
theorem pure_build2 {u v z0 z1 : Value} (ho : o.op = .build T #[(0, x), (1, y)]) (hT : P.underlying T = some (.array 2 e)) (hk : szOf P e = some 1) (hz : zeroOf P T = some [z0, z1]) (hx : scal ρ x = some u) (hy : scal ρ y = some v) (hu : u.oneCell' = true) (hv : v.oneCell' = true) : Pure P w0 M0 o ρ ob (.v .pl (.agg [.sc u, .sc v])) :=
  pure_value fun E w ev hw h=>by
    have hxv:=scal_ok h hx
    have hyv:=scal_ok h hy
    have hrun:(Instr.build T #[(0,u),(1,v)]).run P w=.ok (.agg #[u,v]) w:=by
      apply run_build
      unfold Program.built
      unfold zeroOf at hz
      unfold szOf at hk
      cases hi:P.info? T with
      | none=>rw [hi] at hz;cases hz
      | some it =>
        rw [hi] at hz
        simp only [Option.bind_some,Option.map_eq_some_iff] at hz
        obtain ⟨zz,hz1,hz2⟩:=hz
        cases hie:P.info? e with
        | none=>rw [hie] at hk;cases hk
        | some ie =>
          rw [hie] at hk
          simp only [Option.map_some,Option.some.injEq] at hk
          have e0:zz.cells=#[z0,z1]:=by rw [← Array.toArray_toList (xs:=zz.cells),hz2]
          have cu:u.cells=#[u]:=by cases u<;>simp_all [Value.cells,Value.oneCell']
          have cv:v.cells=#[v]:=by cases v<;>simp_all [Value.cells,Value.oneCell']
          simp [hT,hz1,hk,e0,hie,Instr.fill,cu,cv]
    refine ⟨.agg #[u,v],w,by simp [execOp,ho,hxv,hyv,hrun,Result.andThen],.refl _ _,?_⟩
    refine .agg [u,v] _ rfl (fun j d hd=>?_) (fun j d hd=>?_)
    · match j, hd with
      | 0,hd=>simp at hd;subst hd;rfl
      | 1,hd=>simp at hd;subst hd;rfl
      | j+2,hd=>simp at hd
    · match j, hd with
      | 0,hd=>simp at hd;subst hd;exact .sc _ hu
      | 1,hd=>simp at hd;subst hd;exact .sc _ hv
      | j+2,hd=>simp at hd
theorem pure_build0 {z0 z1 : Value} (ho : o.op = .build T #[]) (hT : P.underlying T = some (.array 2 e)) (hk : szOf P e = some 1) (hz : zeroOf P T = some [z0, z1]) (hu : z0.oneCell' = true) (hv : z1.oneCell' = true) : Pure P w0 M0 o ρ ob (.v .pl (.agg [.sc z0, .sc z1])) :=
  pure_value fun E w ev hw h=>by
    have hrun:(Instr.build T #[]).run P w=.ok (.agg #[z0,z1]) w:=by
      apply run_build
      unfold Program.built
      unfold zeroOf at hz
      unfold szOf at hk
      cases hi:P.info? T with
      | none=>rw [hi] at hz;cases hz
      | some it =>
        rw [hi] at hz
        simp only [Option.bind_some,Option.map_eq_some_iff] at hz
        obtain ⟨zz,hz1,hz2⟩:=hz
        cases hie:P.info? e with
        | none=>rw [hie] at hk;cases hk
        | some ie =>
          have e0:zz.cells=#[z0,z1]:=by rw [← Array.toArray_toList (xs:=zz.cells),hz2]
          simp [hT,hz1,e0,hie,Instr.fill]
    refine ⟨.agg #[z0,z1],w,by simp [execOp,ho,hrun,Result.andThen],.refl _ _,?_⟩
    refine .agg [z0,z1] _ rfl (fun j d hd=>?_) (fun j d hd=>?_)
    · match j, hd with
      | 0,hd=>simp at hd;subst hd;rfl
      | 1,hd=>simp at hd;subst hd;rfl
      | j+2,hd=>simp at hd
    · match j, hd with
      | 0,hd=>simp at hd;subst hd;exact .sc _ hu
      | 1,hd=>simp at hd;subst hd;exact .sc _ hv
      | j+2,hd=>simp at hd
theorem rep_aggl {w:World} {M M':Nat→Prop} {v:Value} {cs:List AV} {l:List Value} (h:Rep w M v (.agg cs)) (hl:scsOf cs=some l):Rep w M' v (.agg cs):=by
  have hc:=scsOf_get hl
  cases h with
  | agg vs _ hn hlf hr =>
    refine .agg vs cs hn hlf fun j d hd=>?_
    have h1:=hr j d hd
    rw [hc,List.getElem?_map,Option.map_eq_some_iff] at hd
    obtain ⟨u,_,rfl⟩:=hd
    generalize vs.getD j undef=q at h1 ⊢
    cases h1 with|sc _ h2=>exact .sc _ h2
theorem pure_aggl {cs:List AV} {l:List Value} (h:Pure P w0 M0 o ρ ob (.v c (.agg cs))) (hl:scsOf cs=some l):Pure P w0 M0 o ρ ob (.v .pl (.agg cs)):=by
  intro E w ev hw hx
  have h:=h E w ev hw hx
  unfold Yield at h ⊢
  revert h
  generalize (execOp ev o).run P w=r
  intro h
  match r,h with
  | .ok (.value z) w',h=>exact ⟨h.1,rep_aggl h.2 hl⟩
  | .ok (.enter f args) w',h=>exact ⟨h.1,h.2.mono fun e w'' ⟨z,he,hb,hz⟩=>⟨z,he,hb,rep_aggl hz hl⟩⟩
theorem pure_index_pc {q:IntKind} {i:Int} {n:Nat} {cs:List AV} (ho:o.op=.indexAddr T x y) (hT:P.underlying T=some (.array n e)) (hk:szOf P e=some 1) (hx:ρ x=some (.v c (.pc cs off))) (hy:scal ρ y=some (.int q i)) (h:0≤i∧i<n):Pure P w0 M0 o ρ ob (.v c (.pc cs (off+i.toNat))) :=
  pure_value fun E w ev hw hh=>by
    have hr:=hh x _ hx
    simp only [SVok] at hr
    have hi:=scal_ok hh hy
    generalize hq:ev x=qx at hr
    cases hr with
    | pc b of _ _ cv hM hb hc hl hr =>
      have hel:P.elem T=e:=by simp [Program.elem,hT]
      have hal:P.arrayLen T=n:=by simp [Program.arrayLen,hT]
      have hin:0≤i∧i<(n:Int):=h
      refine ⟨.pointer (some ⟨b,of+(off+i.toNat),none⟩),w,?_,.refl _ _,.pc b of (off+i.toNat) cs cv hM hb hc hl hr⟩
      simp [execOp,ho,hq,hi,run_indexAt_array,hel,hal,hT,hin,run_size hk,Addr.add_lit,Nat.add_assoc]
theorem pure_load_pel_part {i m:Nat} {el:AV} {xs:List AV} (ho:o.op=.load T x) (hT:isAggOf P T=some true) (hm:szOf P T=some m) (hx:ρ x=some (.pel id i off)) (hl:ob.lookup id=some (.arr e xs)) (hck:szOf P e=some k) (hle:off+m≤k) (he:xs[i]?=some el):Pure P w0 M0 o ρ ob (.v .pl (.agg ((el.cells.drop off).take m))) :=
  pure_value fun E w ev hw h=>by
    obtain ⟨hi,g,hg,hr⟩:=h x _ hx e xs hl
    obtain ⟨vals,⟨hown,hownF⟩,h2,h3⟩:=hw.objs id _ hl
    have hce:=cellsOf_of hck
    rw [hce] at hr hown h2
    have hel:=h2 el (List.mem_of_getElem? he)
    have hvl:vals.length=xs.length*k:=hown.1
    have hmul:i*k+k≤xs.length*k:=by rw [← Nat.succ_mul];exact Nat.mul_le_mul_right _ (by omega)
    have hcell:=run_loadCells (P:=P) w ⟨g,i*k+off,none⟩ m (fun j=>vals.getD (i*k+(off+j)) undef) (fun j hj=>by
      have hj':i*k+(off+j)<vals.length:=by omega
      have:=hown.cells hg (i*k+(off+j)) _ (List.getElem?_eq_getElem hj')
      rw [Addr.add_lit,Nat.zero_add] at this
      rw [Addr.add_lit,Nat.add_assoc,this,List.getD_eq_getElem?_getD,List.getElem?_eq_getElem hj'];rfl)
    have hget:∀ (j:Nat) d,((el.cells.drop off).take m)[j]?=some d→j<m∧el.cells[off+j]?=some d:=fun j d hd=>by
      rw [List.getElem?_take] at hd
      split at hd
      · exact ⟨‹_›,by rw [← hd,List.getElem?_drop]⟩
      · cases hd
    refine ⟨.agg ((List.range m).map fun j=>vals.getD (i*k+(off+j)) undef).toArray,w,?_,.refl _ _,.agg _ _ (by simp [hel];omega) (fun j d hd=>?_) (fun j d hd=>?_)⟩
    · simp only [execOp,ho,hr,Instr.loadAt,Instr.sureAddr,loadVar,Sem.run_bind,run_isAggOf hT,run_size hm,Result.andThen_ok,Sem.run_pure,if_true,hcell]
    · obtain ⟨hj, hd⟩ := hget j d hd
      exact (h3 (i*k+(off+j)) d (by rw [flat_get xs i el h2 he (off+j) (by omega)];exact hd)).1
    · obtain ⟨hj, hd⟩ := hget j d hd
      have:=(h3 (i*k+(off+j)) d (by rw [flat_get xs i el h2 he (off+j) (by omega)];exact hd)).2
      rw [List.getD_eq_getElem?_getD,List.getElem?_map,List.getElem?_range hj]
      exact this
end
end Go.Am

namespace Go.Wd
section
variable {K:Type} [DecidableEq K] {next:K→Nat→K} {size:Nat} {final:K→Bool}
end
section
variable {d m:Dfa}
structure Few (m:Dfa) (U:List (List Bool)):Prop where
  cl:∀ x∈U,∀ s,s<m.k→snext m x s∈U
  start:m.fin∈U
  le:U.length≤2048
  le2:U.length≤2 ^ m.n
theorem Few.met {U:List (List Bool)} (hU:Few m U):Met (snext m) m.k U (reach (snext m) m.k (2 ^ m.n) m.fin) (reach (snext m) m.k (2 ^ m.n) m.fin).length∧[m.fin] <+: reach (snext m) m.k (2 ^ m.n) m.fin:=by
  rw [reach_more hU.cl hU.start hU.le2]
  exact reach_met hU.cl hU.start
theorem few_small (h:okD m) (hn:m.n≤11):Few m (bools m.n) :=
  ⟨fun x _ s _=>bools_mem (snext_len m x s),bools_mem h.1.2.2,by rw [bools_len];exact Nat.pow_le_pow_right (n:=2) (by decide) hn,by rw [bools_len];exact Nat.le_refl _⟩
theorem subF_ok {U:List (List Bool)} (hU:Few m U) (h:okD m):okD (subD m)∧(subD m).size=m.size∧(subD m).k=m.k∧(subD m).n≤U.length:=by
  obtain ⟨h1,h2⟩:=hU.met
  have h5:=kk h
  refine ⟨mk_ok h1 (by have:=h2.length_le;simpa using this) hU.le h5.2,h5.1,?_,?_⟩
  · show ((m.k : Int)).toNat = m.k
    omega
  · show (List.map _ _).length ≤ _
    rw [List.length_map]
    exact nodup_len h1.nodup h1.sub
end
end Go.Wd

namespace Go.Wd
open Go.Am Go.Wc
end Go.Wd
namespace Go.Wd
section
variable {K:Type} [DecidableEq K] {next:K→Nat→K} {size:Nat} {good:K→Bool}
theorem growW_word {B : Nat} {p : Pth K} (hp : p.2.length ≤ B) {l : List (Pth K)} (hl : ∀ q ∈ l, q.2.length ≤ B + 1) : ∀ s, ∀ q ∈ growW next p l s, q.2.length ≤ B + 1
  | 0,q,hq=>hl q hq
  | s + 1, q, hq => by
    rw [growW] at hq
    unfold addW at hq
    split at hq
    · exact growW_word hp hl s q hq
    · rcases List.mem_append.1 hq with hq | hq
      · exact growW_word hp hl s q hq
      · rw [List.mem_singleton.1 hq]
        show (p.2++[s]).length≤B+1
        rw [List.length_append];simp only [List.length_cons,List.length_nil];omega
theorem seek_word : ∀ (f i B : Nat) (l : List (Pth K)) (w : List Nat), (∀ q ∈ l, q.2.length ≤ B) → seekW next size good f i l = some w → w.length ≤ B + f
  | 0,i,B,l,w,_,h=>by cases h
  | f + 1, i, B, l, w, hl, h => by
    rw [seekW] at h
    cases hx:l[i]? with
    | none=>rw [hx] at h;cases h
    | some p =>
      rw [hx] at h
      simp only [] at h
      have hp:=hl p (List.mem_of_getElem? hx)
      split at h
      · injection h with h
        rw [← h];omega
      · have := seek_word f (i + 1) (B + 1) _ w (growW_word hp (fun q hq => by have := hl q hq; omega) size) h
        omega
end
end Go.Wd

