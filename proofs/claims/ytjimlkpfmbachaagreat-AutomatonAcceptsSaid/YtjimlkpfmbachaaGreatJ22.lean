/-
  A drawn region with any number of operations in a chain that turn the call's own objects,the pure ones each at the times when it may run.
-/
import Derived.Test.YtjimlkpfmbachaaGreatJ21
import Derived.Test.YtjimlkpfmbachaaGreatJ20
import Derived.Test.YtjimlkpfmbachaaGreatJ13
import Derived.Test.YtjimlkpfmbachaaGreatJ11
set_option linter.unusedVariables false
set_option linter.unusedSectionVars false
set_option linter.unusedSimpArgs false
namespace Go.Am
open Go.RowKit
section
variable {P:Program} {w0:Fr} {M0:Nat→Prop} {s:St} {o:Oper} {id id2 t u j k b:Nat} {e r T:TypeId} {cs cs2:List Cell} {xs:List AV} {x y:Operand}
theorem cell_one {w:World} {E:Env} {o:List (Nat×Ob)} {v:Value} {c:Cell} (h:CellOk P w0 M0 w E o v c):v.oneCell'=true:=by
  cases c with
  | d x=>exact h.2.one h.1
  | row e xs =>
    obtain ⟨vals,h1,_⟩:=h
    rcases h1.1.2 with ⟨q,_⟩|⟨g,cap,cur,q,_⟩<;>rw [q]<;>rfl
  | mp ks vs=>obtain ⟨b,q,_⟩:=h;rw [q];rfl
theorem subs_app {f:Nat→Value} {b:Nat}:subs f b (cs++cs2) none↔subs f b cs none∨subs (fun j=>f (cs.length+j)) b cs2 none:=by
  constructor
  · rintro ⟨j, c, h1, _, h3⟩
    rcases Nat.lt_or_ge j cs.length with q|q
    · rw [List.getElem?_append_left q] at h1;exact .inl ⟨j,c,h1,by simp,h3⟩
    · rw [List.getElem?_append_right q] at h1
      exact .inr ⟨j-cs.length,c,h1,by simp,by show subB (f (cs.length+(j-cs.length))) b c;rwa [show cs.length+(j-cs.length)=j by omega]⟩
  · rintro (⟨j, c, h1, _, h3⟩ | ⟨j, c, h1, _, h3⟩)
    · exact ⟨j,c,by rw [List.getElem?_append_left (List.getElem?_eq_some_iff.1 h1).1];exact h1,by simp,h3⟩
    · exact ⟨cs.length+j,c,by rw [List.getElem?_append_right (by omega),show cs.length+j-cs.length=j by omega];exact h1,by simp,h3⟩
theorem step_appN (ho : o.op = .call { callee := .builtin .append, args := #[x, y], argTypes := #[T, T] }) (hd : o.dst = some t) (hn : Nat.blt t s.n = true) (hne : Nat.beq id id2 = false) (hnd : Nodup s.s = true) (hT : P.underlying T = some (.slice e)) (hel : elOk P e 1 b = true)
    (hx:s.ev x=some (.nst id)) (hl:s.o.lookup id=some (.nar e cs none)) (hy:s.ev y=some (.nst id2)) (hl2:s.o.lookup id2=some (.nar e cs2 none)) (h2:0<cs2.length) (hb:(cs.length+cs2.length)*b≤140737488355328) (hm:cs.length+cs2.length≤4611686018427387904) (hM0:∀ b,M0 b→b<w0.w.heap.size) :
    Step P w0 M0 o s (({ n:=s.n,s:=s.s.filter (fun p=>p.2.stays true id&&p.2.stays true id2),o:=ins id (.nar e (cs++cs2) none) (dropO id2 (killP (fun d=>d.stays true id&&d.stays true id2) s.o)) }:St).put t (.nst id)):=by
  rintro a w Q ⟨E,hs⟩
  obtain ⟨i,z,hi,hz,hsz,hby,hzs,hk0,hck⟩:=elOk_spec hel
  have hdd:id≠id2:=fun q=>by rw [q,Nat.beq_refl] at hne;cases hne
  have hxv:a.eval x=E.cur id:=(hs.ev hx).1 e cs none hl
  have hyv:a.eval y=E.cur id2:=(hs.ev hy).1 e cs2 none hl2
  obtain ⟨n1,vals1,p1,p2,p3,p4,p5⟩:=hs.wok.objs id _ hl
  obtain ⟨n2,vals2,q1,q2,q3,q4,q5⟩:=hs.wok.objs id2 _ hl2
  rw [hck,Nat.mul_one] at p2 q2
  rw [hck] at p1 q1
  subst p2;subst q2
  have hv1:vals1.length=cs.length:=by rw [p1.1.1,Nat.mul_one]
  have hv2:vals2.length=cs2.length:=by rw [q1.1.1,Nat.mul_one]
  obtain ⟨g,cap,hsl⟩:∃ g cap,E.cur id2=.slice (some ⟨g,0,none⟩) cs2.length cap:=by
    rcases q1.1.2 with ⟨q,h0⟩|⟨g,cap,cur,q,_⟩
    · omega
    · exact ⟨g,cap,q⟩
  have hone:∀ v∈vals2,v.oneCell'=true:=fun v hv=>by
    obtain ⟨j,hj,rfl⟩:=List.getElem_of_mem hv
    have hj':j<cs2.length:=by omega
    have:=cell_one (q4.ok j _ (List.getElem?_eq_getElem hj') (by simp))
    rw [← q3 j hj',List.getD_eq_getElem?_getD,List.getElem?_eq_getElem hj] at this
    exact this
  obtain ⟨v',w',hrun,hown',hg,_,hblk⟩:=run_append_own_at (P:=P) w 0 T o.type e i z 1 b hT hi hz hsz hby hzs hk0 (E.cur id) cs.length vals1 p1.1 ⟨g,0,none⟩ cs2.length cap vals2 (by rw [hv2,Nat.mul_one])
    (fun j v hv=>by have:=q1.1.cells (g:=g) (by rw [hsl];rfl) j v hv;exact this) hone (by simp only [maxLen];omega) hb (Nat.zero_le _)
  unfold Oper.wp
  have hexec:(execOp a.eval o).run P w=.ok (.value v') w':=by
    simp [execOp,ho,resolve,invoke,builtin,hxv,hyv,hsl,hrun]
  rw [hexec]
  simp only [Oper.upon,hd]
  obtain ⟨E',e1,e2,e3,e4,e5⟩:∃ E':Env,E'.cur id=v'∧(∀ i,i≠id→E'.cur i=E.cur i)∧E'.blk=E.blk∧(E'.sub id=fun j=>if j<cs.length then E.sub id j else E.sub id2 (j-cs.length))∧(∀ i,i≠id→E'.sub i=E.sub i) :=
    ⟨{ E with cur:=fun i=>if i=id then v' else E.cur i,sub:=fun i=>if i=id then fun j=>if j<cs.length then E.sub id j else E.sub id2 (j-cs.length) else E.sub i },if_pos rfl,fun i hi=>if_neg hi,rfl,if_pos rfl,fun i hi=>if_neg hi⟩
  have hN:∀ i q,(if i=id then some (some (Ob.nar e (cs++cs2) none)) else if i=id2 then some none else none:Option (Option Ob))=some q→(i=id∧q=some (.nar e (cs++cs2) none))∨(i=id2∧q=none):=fun i q hq=>by
    by_cases h1:i=id
    · rw [if_pos h1] at hq;injection hq with hq;exact .inl ⟨h1,hq.symm⟩
    · rw [if_neg h1] at hq
      by_cases h2:i=id2
      · rw [if_pos h2] at hq;injection hq with hq;exact .inr ⟨h2,hq.symm⟩
      · rw [if_neg h2] at hq;cases hq
  have hs1:∀ b',subs (E'.sub id) b' (cs++cs2) none→subs (E.sub id) b' cs none∨subs (E.sub id2) b' cs2 none:=fun b' hb'=>by
    rcases subs_app.1 hb' with ⟨j,c,r1,r2,r3⟩|⟨j,c,r1,r2,r3⟩
    · rw [e4] at r3
      simp only [if_pos (List.getElem?_eq_some_iff.1 r1).1] at r3
      exact .inl ⟨j,c,r1,r2,r3⟩
    · rw [e4] at r3
      simp only [if_neg (show ¬ cs.length+j<cs.length by omega),show cs.length+j-cs.length=j by omega] at r3
      exact .inr ⟨j,c,r1,r2,r3⟩
  have apart:∀ b',ownB E id b' (.nar e cs none)→ownB E id2 b' (.nar e cs2 none)→False:=fun b' r1 r2=>hdd (hs.wok.disj id _ id2 _ b' hl hl2 r1 r2)
  have hrow:∀ b',v'.ownBlock=some b'→ownB E id b' (.nar e cs none)∨w.heap.size≤b':=fun b' hb'=>by
    rcases hblk with q|q
    · rw [q] at hb';exact .inl (.inl hb')
    · rw [q] at hb';simp only [Option.some.injEq] at hb';exact .inr (by omega)
  refine ⟨E',SimE.put ?_ (by simpa using hn) ⟨fun _ _ _ _=>e1.symm,fun ks c l hh=>?_⟩⟩
  · refine SimE.updL (E' := E') (fun d => d.stays true id && d.stays true id2) (fun i => if i = id then some (some (.nar e (cs ++ cs2) none)) else if i = id2 then some none else none) _ (fun i => ?_) (fun d => rfl) (fun i ob hq hx => ?_) (fun i hq => ?_) hs hnd hM0 (fun i hq => ?_) (fun x hx => by rw [e3]) (E.cur id).ownBlock hg (fun _ => run_drawn _ _ _ _ hrun) (fun g' hg' => ⟨id, _, by rw [if_pos rfl]; simp, hl, .inl hg'⟩) (fun i ob b' hq hb' => ?_) (fun i ob i' ob' b' hq hq' hb hb' => ?_) (fun rep sv lents i ob hq => ?_)
    · rw [lookup_ins]
      by_cases r1:i=id
      · rw [if_pos r1,if_pos r1]
      · rw [if_neg r1, if_neg r1, lookup_dropO]
        by_cases r2:i=id2
        · rw [if_pos r2,if_pos r2]
        · rw [if_neg r2,if_neg r2];exact lookup_killP _ i s.o
    · rcases hN i _ hq with ⟨rfl, _⟩ | ⟨_, q⟩
      · obtain ⟨d, r1, r2⟩ := hx
        rw [stays_refs r1] at r2;cases r2
      · cases q
    · rcases hN i _ hq with ⟨_, q⟩ | ⟨rfl, _⟩
      · cases q
      · exact ⟨e2 i (Ne.symm hdd),by rw [e3]⟩
    · have hit : i ≠ id := fun q => by rw [if_pos q] at hq; cases hq
      exact ⟨e2 i hit,by rw [e3],e5 i hit⟩
    · rcases hN i _ hq with ⟨rfl, q⟩ | ⟨_, q⟩
      · injection q with q; subst q
        rcases hb' with hb'|hb'
        · rw [e1] at hb'
          rcases hrow b' hb' with q|q
          · exact .inl ⟨i,_,by rw [if_pos rfl];simp,hl,q⟩
          · exact .inr q
        · rcases hs1 b' hb' with q | q
          · exact .inl ⟨i,_,by rw [if_pos rfl];simp,hl,.inr q⟩
          · exact .inl ⟨id2,_,by rw [if_neg (Ne.symm hdd),if_pos rfl];simp,hl2,.inr q⟩
      · cases q
    · rcases hN i _ hq with ⟨rfl, _⟩ | ⟨_, q⟩
      · rcases hN i' _ hq' with ⟨rfl, _⟩ | ⟨_, q⟩
        · rfl
        · cases q
      · cases q
    · rcases hN i _ hq with ⟨rfl, q⟩ | ⟨_, q⟩
      · injection q with q; subst q
        have hlt1:∀ b',subs (E.sub i) b' cs none→b'<w.heap.size:=fun b' q=>(p4.range q).2
        have hlt2:∀ b',subs (E.sub id2) b' cs2 none→b'<w.heap.size:=fun b' q=>(q4.range q).2
        have hnr:∀ b',subs (E.sub i) b' cs none∨subs (E.sub id2) b' cs2 none→some b'≠(E.cur i).ownBlock:=fun b' q he=>by
          rcases q with q|q
          · exact p5 b' q he.symm
          · exact apart b' (.inl he.symm) (.inr q)
        have hcell:∀ (j:Nat) c,(cs++cs2)[j]?=some c→(j<cs.length∧cs[j]?=some c∧E'.sub i j=E.sub i j)∨(cs.length≤j∧cs2[j-cs.length]?=some c∧E'.sub i j=E.sub id2 (j-cs.length)):=fun j c hc=>by
          rcases Nat.lt_or_ge j cs.length with q|q
          · rw [List.getElem?_append_left q] at hc
            exact .inl ⟨q,hc,by rw [e4];exact if_pos q⟩
          · rw [List.getElem?_append_right q] at hc
            exact .inr ⟨q,hc,by rw [e4];exact if_neg (by omega)⟩
        refine ⟨cs.length+cs2.length,vals1++vals2,?_,by rw [hck,Nat.mul_one,List.length_append],fun j hj=>?_,⟨fun j c hc _=>?_,fun i1 i2 c1 c2 b' r1 r2 _ _ r5 r6=>?_,(fun j u' hu=>by cases hu),(fun j u' hu=>by cases hu)⟩,fun b' hb'=>?_⟩
        · rw [e1, hck]
          refine ⟨hown',fun b' hb'=>?_⟩
          rcases hrow b' hb' with q|q
          · exact (ObOk.own_range (hs.wok.objs i _ hl) q).1
          · exact hs.wok.new_free hM0 q
        · rw [show E'.sub i j = if j < cs.length then E.sub i j else E.sub id2 (j - cs.length) from congrFun e4 j, List.getD_eq_getElem?_getD]
          rw [List.length_append] at hj
          rcases Nat.lt_or_ge j cs.length with q|q
          · rw [List.getElem?_append_left (by omega),if_pos q,← List.getD_eq_getElem?_getD];exact p3 j q
          · rw [List.getElem?_append_right (by omega),if_neg (by omega),hv1,← List.getD_eq_getElem?_getD];exact q3 _ (by omega)
        · rcases hcell j c hc with ⟨r1, r2, r3⟩ | ⟨r1, r2, r3⟩
          · rw [r3]
            exact (p4.ok j c r2 (by simp)).go (fun b' hb'=>hg.block b' (hlt1 b' ⟨j,c,r2,by simp,hb'⟩) (hnr b' (.inl ⟨j,c,r2,by simp,hb'⟩))) (fun _ _ hf=>hf) (fun v d hr=>rep .pl v d hr (by simp))
          · rw [r3]
            exact (q4.ok _ c r2 (by simp)).go (fun b' hb'=>hg.block b' (hlt2 b' ⟨_,c,r2,by simp,hb'⟩) (hnr b' (.inr ⟨_,c,r2,by simp,hb'⟩))) (fun _ _ hf=>hf) (fun v d hr=>rep .pl v d hr (by simp))
        · rcases hcell i1 c1 r1 with ⟨a1, a2, a3⟩ | ⟨a1, a2, a3⟩
          · rcases hcell i2 c2 r2 with ⟨b1, b2, b3⟩ | ⟨b1, b2, b3⟩
            · rw [a3] at r5; rw [b3] at r6
              exact p4.apart i1 i2 c1 c2 b' a2 b2 (by simp) (by simp) r5 r6
            · rw [a3] at r5; rw [b3] at r6
              exact (apart b' (.inr ⟨i1,c1,a2,by simp,r5⟩) (.inr ⟨_,c2,b2,by simp,r6⟩)).elim
          · rcases hcell i2 c2 r2 with ⟨b1, b2, b3⟩ | ⟨b1, b2, b3⟩
            · rw [a3] at r5; rw [b3] at r6
              exact (apart b' (.inr ⟨i2,c2,b2,by simp,r6⟩) (.inr ⟨_,c1,a2,by simp,r5⟩)).elim
            · rw [a3] at r5; rw [b3] at r6
              have:=q4.apart _ _ c1 c2 b' a2 b2 (by simp) (by simp) r5 r6
              omega
        · intro hb2
          rw [e1] at hb2
          rcases hs1 b' hb' with q|q
          · rcases hrow b' hb2 with r1 | r1
            · rcases hblk with h0 | h0
              · rw [h0] at hb2;exact p5 b' q hb2
              · rw [h0] at hb2;simp only [Option.some.injEq] at hb2;have:=hlt1 b' q;omega
            · have:=hlt1 b' q;omega
          · rcases hrow b' hb2 with r1 | r1
            · exact apart b' r1 (.inr q)
            · have:=hlt2 b' q;omega
      · cases q
  · rw [show (ins id (Ob.nar e (cs ++ cs2) none) (dropO id2 (killP (fun d => d.stays true id && d.stays true id2) s.o))).lookup id = _ from by rw [lookup_ins, if_pos rfl]] at hh
    cases hh
end
end Go.Am

namespace Go.Am
open Go.RowKit
section
variable {P:Program} {w0:Fr} {M0:Nat→Prop} {s:St} {o:Oper} {id id2 t u j k b:Nat} {e r T:TypeId} {cs cs2:List Cell} {xs:List AV} {x y:Operand} {E:Env} {a:Act} {w:World}
def Cell.av:Cell→AV
  | .d x=>x
  | .row _ xs=>.sl xs
  | .mp ks vs=>.mp ks vs
theorem ArrOk.rep {o:List (Nat×Ob)} {M:Nat→Prop} {v:Value} (h:ArrOk P w0 M0 w E o e xs v) (hd:∀ v d,Rep w (clsM M0 (owned E o) .pl) v d→Rep w M v d) (hb:∀ g,v.ownBlock=some g→¬ M g):Rep w M v (.sl xs):=by
  obtain ⟨vals,h1,h2,h3⟩:=h
  have hfl:=flat_length xs h2
  obtain ⟨⟨hl,h1'⟩,hfree⟩:=h1
  rcases h1' with ⟨hv,hn⟩|⟨g,cap,cur,hv,hg,hh,hnc,hcm,hcs,htake⟩
  · rw [hv]
    have:xs=[]:=List.eq_nil_of_length_eq_zero hn
    subst this
    exact .sl none 0 0 [] (P.cellsOf e) (fun _=>undef) rfl (Nat.le_refl _) h2 (fun h=>absurd h (by omega)) (fun j d hd=>by simp [flat] at hd) (fun j d hd=>by simp [flat] at hd)
  · have hown : w.ownsRow 0 e (P.cellsOf e) v xs.length vals := ⟨hl, .inr ⟨g, cap, cur, hv, hg, hh, hnc, hcm, hcs, htake⟩⟩
    have hob:v.ownBlock=some g:=by rw [hv];rfl
    rw [hv]
    refine .sl _ _ _ _ (P.cellsOf e) (fun j=>vals.getD j undef) rfl hnc h2 (fun h0=>⟨g,0,rfl,hb g hob,(hown.lt g hob).2,fun j hj=>?_⟩) (fun j d hj=>(h3 j d hj).1) (fun j d hj=>hd _ _ (h3 j d hj).2)
    have hj':j<vals.length:=by rw [hl];exact hj
    have:=hown.cells hob j vals[j] (List.getElem?_eq_getElem hj')
    rw [Addr.add_lit] at this
    rw [this,List.getD_eq_getElem?_getD,List.getElem?_eq_getElem hj'];rfl
theorem CellOk.rep {o:List (Nat×Ob)} {M:Nat→Prop} {v:Value} {c:Cell} (h:CellOk P w0 M0 w E o v c) (hd:∀ v d,Rep w (clsM M0 (owned E o) .pl) v d→Rep w M v d) (hb:∀ g,subB v g c→¬ M g):Rep w M v c.av:=by
  cases c with
  | d x=>exact hd _ _ h.2
  | row e xs=>exact ArrOk.rep h hd hb
  | mp ks vs =>
    obtain ⟨g,q,es,clock,h1,h2,h3,h4,h5⟩:=h
    rw [q]
    exact .mp g es clock ks vs (hb g q) (mapAt_lt h1) h1 h3 h4 fun j d hj=>hd _ _ (h5 j d hj)
theorem av_leaf {o:List (Nat×Ob)} {v:Value} {c:Cell} (h:CellOk P w0 M0 w E o v c):AV.leaf c.av=true:=by
  cases c with
  | d x=>exact h.1
  | row e xs=>rfl
  | mp ks vs=>rfl
theorem leaf_cells {d:AV} (h:AV.leaf d=true):AV.cells d=[d]:=by
  cases d<;>first|rfl|cases h
theorem flat_leaves:∀ {l:List AV},(∀ x∈l,AV.leaf x=true)→flat l=l
  | [],_=>rfl
  | x :: l, h => by
    have ih:=flat_leaves (l:=l) fun y hy=>h y (List.mem_cons_of_mem _ hy)
    unfold flat at ih ⊢
    rw [List.flatMap_cons,leaf_cells (h x List.mem_cons_self),ih];rfl
theorem SimE.flatten (h:SimE P w0 M0 E s a w) (hnd:Nodup s.s=true) (hM0:∀ b,M0 b→b<w0.w.heap.size) (hl:s.o.lookup id=some (.nar e cs none)) (hck:P.cellsOf e=1):SimE P w0 M0 E (s.upd true id (.arr e (cs.map Cell.av))) a w:=by
  obtain ⟨n,vals,g1,g2,g3,g4,g5⟩:=h.wok.objs id _ hl
  rw [hck,Nat.mul_one] at g2
  subst g2
  refine h.upd true (fun q=>by cases q) hnd hM0 (fun i hi=>⟨rfl,rfl⟩) (.inr rfl) none ⟨rfl,rfl,rfl,Nat.le_refl _,fun _ _ _=>rfl⟩ (fun _=>Nat.le_refl _) (fun g hg=>by cases hg) (fun b hb=>.inl ⟨_,hl,.inl hb⟩) (fun rep sv=>?_)
  have hleaf:∀ x∈cs.map Cell.av,AV.leaf x=true:=fun x hx=>by
    obtain ⟨c,hc,rfl⟩:=List.mem_map.1 hx
    obtain ⟨j,hj,rfl⟩:=List.getElem_of_mem hc
    exact av_leaf (g4.ok j _ (List.getElem?_eq_getElem hj) (by simp))
  refine ⟨vals,by rw [List.length_map];exact g1,fun x hx=>by rw [leaf_cells (hleaf x hx),hck];rfl,fun j d hd=>?_⟩
  rw [flat_leaves hleaf] at hd
  refine ⟨hleaf d (List.mem_of_getElem? hd),?_⟩
  rw [List.getElem?_map,Option.map_eq_some_iff] at hd
  obtain ⟨c,hc,rfl⟩:=hd
  have hj:j<cs.length:=(List.getElem?_eq_some_iff.1 hc).1
  rw [g3 j hj]
  refine (g4.ok j c hc (by simp)).rep (fun v d hr=>rep .pl v d hr (by simp)) fun g hg hm=>?_
  have hsub:subs (E.sub id) g cs none:=⟨j,c,hc,by simp,hg⟩
  rcases hm with hm|⟨i,ob,q1,q2⟩
  · exact (g4.range hsub).1.2 hm
  · by_cases hi : i = id
    · subst hi
      rw [lookup_ins,if_pos rfl] at q1
      simp only [Option.some.injEq] at q1
      subst q1
      exact g5 g hsub q2
    · rw [lookup_ins, if_neg hi, lookup_killO, Option.map_eq_some_iff] at q1
      obtain ⟨ob0,q3,rfl⟩:=q1
      exact hi (h.wok.disj i ob0 id _ g q3 hl (ownB_kill.1 q2) (.inr hsub))
theorem CallM.data {f : FuncId} {ds : List AV} (h : CallM P f ds e cs) (hk : szOf P e = some 1) : CallF P f ds (.p (.sl (cs.map Cell.av))) :=
  ⟨h.1, fun w vs hv hr => (h.2 w vs hv hr).mono fun q w' ⟨v, he, hb, E, hv0, n, vals, g1, g2, g3, g4, g5⟩ => ⟨v, he, hb, by
    rw [cellsOf_of hk,Nat.mul_one] at g2
    subst g2
    have hleaf:∀ x∈cs.map Cell.av,AV.leaf x=true:=fun x hx=>by
      obtain ⟨c,hc,rfl⟩:=List.mem_map.1 hx
      obtain ⟨j,hj,rfl⟩:=List.getElem_of_mem hc
      exact av_leaf (g4.ok j _ (List.getElem?_eq_getElem hj) (by simp))
    have hown0:∀ g,(E.cur 0).ownBlock=some g→¬ g<w.heap.size:=fun g hg q=>(g1.2 g hg).2 q
    show Rep w' _ v (.sl (cs.map Cell.av))
    rw [← hv0]
    obtain ⟨⟨hl,h1'⟩,hfree⟩:=g1
    have hwk:∀ v d,Rep w' (clsM (fun b=>b<w.heap.size) (owned E [(0,.nar e cs none)]) .pl) v d→Rep w' (fun b=>b<w.heap.size) v d:=fun v d hr=>hr.weak fun b hb=>.inl hb
    rw [cellsOf_of hk] at h1' hl
    rcases h1' with ⟨hvn,hn⟩|⟨g,cap,cur,hvs,hg,hh,hnc,hcm,hcs,htake⟩
    · rw [hvn]
      have:cs=[]:=List.eq_nil_of_length_eq_zero hn
      subst this
      exact .sl none 0 0 [] 1 (fun _=>undef) rfl (Nat.le_refl _) (fun x hx=>by cases hx) (fun h=>absurd h (by omega)) (fun j d hd=>by simp [flat] at hd) (fun j d hd=>by simp [flat] at hd)
    · have hown : w'.ownsRow 0 e 1 (E.cur 0) cs.length vals := ⟨hl, .inr ⟨g, cap, cur, hvs, hg, hh, hnc, hcm, hcs, htake⟩⟩
      have hob:(E.cur 0).ownBlock=some g:=by rw [hvs];rfl
      rw [hvs]
      refine .sl _ _ _ _ 1 (fun j=>vals.getD j undef) (by rw [List.length_map]) hnc (fun x hx=>by rw [leaf_cells (hleaf x hx)];rfl) (fun h0=>⟨g,0,rfl,hown0 g hob,(hown.lt g hob).2,fun j hj=>?_⟩) (fun j d hd=>?_) (fun j d hd=>?_)
      · have hj' : j < vals.length := by rw [hl]; exact hj
        have:=hown.cells hob j vals[j] (List.getElem?_eq_getElem hj')
        rw [Addr.add_lit] at this
        rw [this,List.getD_eq_getElem?_getD,List.getElem?_eq_getElem hj'];rfl
      · rw [flat_leaves hleaf] at hd;exact hleaf d (List.mem_of_getElem? hd)
      · rw [flat_leaves hleaf, List.getElem?_map, Option.map_eq_some_iff] at hd
        obtain ⟨c,hc,rfl⟩:=hd
        have hj:j<cs.length:=(List.getElem?_eq_some_iff.1 hc).1
        rw [g3 j hj]
        exact (g4.ok j c hc (by simp)).rep hwk fun g' hg' q=>(g4.range ⟨j,c,hc,by simp,hg'⟩).1.2 q⟩⟩
end
end Go.Am

namespace Go.Wd
open Go.Am Go.Wc
def rowsI (T:TypeId) (m:List (List Int)):List Cell:=m.map fun r=>Cell.row T (r.map int)
theorem rowsI_len (T:TypeId) (m:List (List Int)):(rowsI T m).length=m.length:=by unfold rowsI;rw [List.length_map]
theorem rowsI_av (T:TypeId) (m:List (List Int)):(rowsI T m).map Cell.av=m.map ints:=by unfold rowsI;rw [List.map_map];rfl
theorem rowsI_step {T:TypeId} {m:List (List Int)} {i:Nat} (h:i<m.length):rowsI T (m.take (i+1))=rowsI T (m.take i)++[Cell.row T ((m.getD i default).map int)]:=by
  unfold rowsI
  rw [List.take_add_one,List.getElem?_eq_getElem h,List.getD_eq_getElem?_getD,List.getElem?_eq_getElem h,List.map_append];rfl
theorem rowsI_at {T:TypeId} {m:List (List Int)} {i:Nat} (h:i<m.length):(rowsI T m)[i]?=some (Cell.row T ((m.getD i default).map int)):=by
  unfold rowsI
  rw [List.getElem?_map,List.getElem?_eq_getElem h,List.getD_eq_getElem?_getD,List.getElem?_eq_getElem h];rfl
theorem rowsI_set {T:TypeId} {m:List (List Int)} {i:Nat} {r:List Int}:(rowsI T m).set i (Cell.row T (r.map int))=rowsI T (m.set i r):=by unfold rowsI;rw [List.map_set]
def spK (d:Dfa) (a:Int):Nat:=(around a d.next.length).toNat
def spR (d:Dfa) (a:Int):List Int:=d.next.getD (spK d a) default
def spS (d:Dfa) (a:Int):Nat:=(around (a.tdiv 8) (spR d a).length).toNat
def sp2 (d:Dfa):List Int:=[-1,0,(d.next.length:Int)-1,d.next.length]
def sp7:List Int:=[0,64,65,-1]
def spZ (d:Dfa) (a h b:Int):Dfa :=
  if around h 8=0 then ⟨b,d.next,d.fin⟩
  else if around h 8=1 then ⟨d.size,d.next.set (spK d a) ((spR d a).set (spS d a) b),d.fin⟩
  else if around h 8=2 then ⟨d.size,d.next.set (spK d a) ((spR d a).set (spS d a) ((sp2 d).getD (around b 4).toNat default)),d.fin⟩
  else if around h 8=3 then ⟨d.size,d.next.set (spK d a) ((spR d a).take (spS d a)),d.fin⟩
  else if around h 8=4 then ⟨d.size,d.next.set (spK d a) (spR d a++[0]),d.fin⟩
  else if around h 8=5 then ⟨d.size,d.next,d.fin.drop 1⟩
  else if around h 8=6 then ⟨d.size,d.next.take (spK d a),d.fin.take (spK d a)⟩
  else ⟨sp7.getD (around b 4).toNat default,d.next,d.fin⟩
theorem spK_lt {d:Dfa} (h:okD d) (a:Int):spK d a<d.next.length:=by
  have h1:=h.1.2.1
  have:=around_lt (n:=a) (most:=d.next.length) (by omega)
  unfold spK;omega
theorem spK_eq {d:Dfa} (h:okD d) (a:Int):around a d.next.length=(spK d a:Int):=by
  have h1:=h.1.2.1
  have:=around_lt (n:=a) (most:=d.next.length) (by omega)
  unfold spK;omega
theorem spR_len {d:Dfa} (h:okD d) (a:Int):((spR d a).length:Int)=d.size:=(h.row (spK_lt h a)).1
theorem spS_eq {d:Dfa} (h:okD d) (a:Int):around (a.tdiv 8) (spR d a).length=(spS d a:Int)∧spS d a<(spR d a).length:=by
  have h1:=h.1.1
  have h2:=spR_len h a
  have:=around_lt (n:=a.tdiv 8) (most:=(spR d a).length) (by omega)
  unfold spS;omega
theorem spZ_n {d:Dfa} (a h b:Int):(spZ d a h b).next.length≤d.next.length:=by
  unfold spZ
  repeat' split
  all_goals simp [List.length_take]
  all_goals omega
theorem tdiv8 {a:Int} (h:I64 a):-9223372036854775808≤a.tdiv 8∧a.tdiv 8≤9223372036854775807:=by
  obtain ⟨h1,h2⟩:=h
  rcases Int.le_total 0 a with h0|h0
  · rw [Int.tdiv_eq_ediv_of_nonneg h0];omega
  · have e : a.tdiv 8 = -((-a).tdiv 8) := by rw [Int.neg_tdiv, Int.neg_neg]
    rw [e,Int.tdiv_eq_ediv_of_nonneg (by omega)];omega
theorem sp_0 {d:Dfa} {a h b:Int} (q:around h 8=0):spZ d a h b=⟨b,d.next,d.fin⟩:=by
  unfold spZ
  rw [if_pos q]
theorem sp_1 {d:Dfa} {a h b:Int} (q:around h 8=1):spZ d a h b=⟨d.size,d.next.set (spK d a) ((spR d a).set (spS d a) b),d.fin⟩:=by
  unfold spZ
  rw [if_neg (by omega),if_pos q]
theorem sp_2 {d:Dfa} {a h b:Int} (q:around h 8=2):spZ d a h b=⟨d.size,d.next.set (spK d a) ((spR d a).set (spS d a) ((sp2 d).getD (around b 4).toNat default)),d.fin⟩:=by
  unfold spZ
  rw [if_neg (by omega),if_neg (by omega),if_pos q]
theorem sp_3 {d:Dfa} {a h b:Int} (q:around h 8=3):spZ d a h b=⟨d.size,d.next.set (spK d a) ((spR d a).take (spS d a)),d.fin⟩:=by
  unfold spZ
  rw [if_neg (by omega),if_neg (by omega),if_neg (by omega),if_pos q]
theorem sp_4 {d:Dfa} {a h b:Int} (q:around h 8=4):spZ d a h b=⟨d.size,d.next.set (spK d a) (spR d a++[0]),d.fin⟩:=by
  unfold spZ
  rw [if_neg (by omega),if_neg (by omega),if_neg (by omega),if_neg (by omega),if_pos q]
theorem sp_5 {d:Dfa} {a h b:Int} (q:around h 8=5):spZ d a h b=⟨d.size,d.next,d.fin.drop 1⟩:=by
  unfold spZ
  rw [if_neg (by omega),if_neg (by omega),if_neg (by omega),if_neg (by omega),if_neg (by omega),if_pos q]
theorem sp_6 {d:Dfa} {a h b:Int} (q:around h 8=6):spZ d a h b=⟨d.size,d.next.take (spK d a),d.fin.take (spK d a)⟩:=by
  unfold spZ
  rw [if_neg (by omega),if_neg (by omega),if_neg (by omega),if_neg (by omega),if_neg (by omega),if_neg (by omega),if_pos q]
theorem sp_7 {d:Dfa} {a h b:Int} (q:7≤around h 8):spZ d a h b=⟨sp7.getD (around b 4).toNat default,d.next,d.fin⟩:=by
  unfold spZ
  rw [if_neg (by omega),if_neg (by omega),if_neg (by omega),if_neg (by omega),if_neg (by omega),if_neg (by omega),if_neg (by omega)]
theorem sp_same {d:Dfa} {a:Int} (h:okD d):d.next.set (spK d a) (spR d a)=d.next:=by
  have hk:=spK_lt h a
  unfold spR
  rw [List.getD_eq_getElem?_getD,List.getElem?_eq_getElem hk]
  exact List.set_getElem_self hk
theorem sp_row1 {T:TypeId} {m:List (List Int)} {k s:Nat} {r:List Int} {x:Int}:((rowsI T m).set k (Cell.row T ((r.map int).set s (int x)))).map Cell.av=(m.set k (r.set s x)).map ints:=by rw [← List.map_set,rowsI_set,rowsI_av]
theorem sp_row3 {m:List (List Int)} {k:Nat} {r:List Int}:(m.map ints).set k (ints r)=(m.set k r).map ints:=List.map_set.symm
theorem sp_row4 {T:TypeId} {m:List (List Int)} {k:Nat} {r:List Int}:((rowsI T m).set k (Cell.row T (r.map int++[int 0]))).map Cell.av=(m.set k (r++[0])).map ints:=by
  rw [show r.map int++[int 0]=(r++[0]).map int from by rw [List.map_append];rfl,rowsI_set,rowsI_av]
end Go.Wd

namespace Go.Am
open Go.RowKit
section
variable {P:Program} {w0:Fr} {M0:Nat→Prop} {s:St} {t u j:Nat} {e r:TypeId} {cs cs':List Cell} {xs:List AV} {y:Code} {Q:Exit→St→Prop}
theorem imp_lend (id u:Nat) (hM0:∀ b,M0 b→b<w0.w.heap.size) (hnd:Nodup s.s=true) (hne:Nat.beq u id=false) (hl:s.o.lookup id=some (.nar e cs none)) (hc:cs[j]?=some (.row r xs)) :
    Imp P w0 M0 s { n:=s.n,s:=s.s.filter (fun p=>p.2.stays true u),o:=ins u (.arr r xs) (ins id (.nar e cs (some (j,.arr u))) (killO true u s.o)) }:=fun a w ⟨E,hs⟩=>by
  obtain ⟨E',_,h⟩:=hs.borrow (u:=u) hnd hM0 hl hc (fun q=>by rw [q,Nat.beq_refl] at hne;cases hne)
  exact ⟨E',h⟩
theorem code_lend (id u:Nat) (hM0:∀ b,M0 b→b<w0.w.heap.size) (hnd:Nodup s.s=true) (hne:Nat.beq u id=false) (hl:s.o.lookup id=some (.nar e cs none)) (hc:cs[j]?=some (.row r xs))
    (h:CodeOk P w0 M0 y { n:=s.n,s:=s.s.filter (fun p=>p.2.stays true u),o:=ins u (.arr r xs) (ins id (.nar e cs (some (j,.arr u))) (killO true u s.o)) } Q):CodeOk P w0 M0 y s Q:=CodeOk.imp (imp_lend id u hM0 hnd hne hl hc) h
end
end Go.Am

namespace Go.Am
open Go.RowKit
section
variable {P:Program} {w0:Fr} {M0:Nat→Prop} {s:St} {id:Nat} {e:TypeId} {cs:List Cell} {E:Env} {a:Act} {w:World}
theorem SimE.renN (u:Nat) (h:SimE P w0 M0 E s a w) (hnd:Nodup s.s=true) (hM0:∀ b,M0 b→b<w0.w.heap.size) (hl:s.o.lookup id=some (.nar e cs none)) (hu:u≠id) :
    ∃ E':Env,E'.cur u=E.cur id∧SimE P w0 M0 E' { n:=s.n,s:=s.s.filter (fun p=>p.2.stays true u&&p.2.stays true id),o:=ins u (.nar e cs none) (dropO id (killP (fun d=>d.stays true u&&d.stays true id) s.o)) } a w:=by
  obtain ⟨n,vals,g1,g2,g3,g4,g5⟩:=h.wok.objs id _ hl
  obtain ⟨E',e1,e2,e3,e4,e5⟩:∃ E':Env,E'.cur u=E.cur id∧(∀ i,i≠u→E'.cur i=E.cur i)∧E'.blk=E.blk∧E'.sub u=E.sub id∧(∀ i,i≠u→E'.sub i=E.sub i) :=
    ⟨{ E with cur:=fun i=>if i=u then E.cur id else E.cur i,sub:=fun i=>if i=u then E.sub id else E.sub i },if_pos rfl,fun i hi=>if_neg hi,rfl,if_pos rfl,fun i hi=>if_neg hi⟩
  have hN:∀ i q,(if i=u then some (some (Ob.nar e cs none)) else if i=id then some none else none:Option (Option Ob))=some q→(i=u∧q=some (.nar e cs none))∨(i=id∧q=none):=fun i q hq=>by
    by_cases h1:i=u
    · rw [if_pos h1] at hq;injection hq with hq;exact .inl ⟨h1,hq.symm⟩
    · rw [if_neg h1] at hq
      by_cases h2:i=id
      · rw [if_pos h2] at hq;injection hq with hq;exact .inr ⟨h2,hq.symm⟩
      · rw [if_neg h2] at hq;cases hq
  refine ⟨E',e1,?_⟩
  refine SimE.updL (E':=E') (fun d=>d.stays true u&&d.stays true id) (fun i=>if i=u then some (some (.nar e cs none)) else if i=id then some none else none) _ (fun i=>?_) (fun d=>rfl) (fun i ob hq hx=>?_) (fun i hq=>?_) h hnd hM0 (fun i hq=>?_) (fun x hx=>by rw [e3]) none ⟨rfl,rfl,rfl,Nat.le_refl _,fun _ _ _=>rfl⟩ (fun _=>Nat.le_refl _) (fun g hg=>by cases hg) (fun i ob b hq hb=>.inl ?_) (fun i ob i' ob' b hq hq' hb hb'=>?_) (fun rep sv lents i ob hq=>?_)
  · rw [lookup_ins]
    by_cases q1:i=u
    · rw [if_pos q1,if_pos q1]
    · rw [if_neg q1, if_neg q1, lookup_dropO]
      by_cases q2:i=id
      · rw [if_pos q2,if_pos q2]
      · rw [if_neg q2,if_neg q2];exact lookup_killP _ i s.o
  · rcases hN i _ hq with ⟨rfl, _⟩ | ⟨_, q⟩
    · obtain ⟨d, q1, q2⟩ := hx
      rw [stays_refs q1] at q2;cases q2
    · cases q
  · rcases hN i _ hq with ⟨_, q⟩ | ⟨rfl, _⟩
    · cases q
    · exact ⟨e2 i (Ne.symm hu),by rw [e3]⟩
  · have hit : i ≠ u := fun q => by rw [if_pos q] at hq; cases hq
    exact ⟨e2 i hit,by rw [e3],e5 i hit⟩
  · rcases hN i _ hq with ⟨rfl, q⟩ | ⟨_, q⟩
    · injection q with q; subst q
      refine ⟨id,_,by rw [if_neg (Ne.symm hu),if_pos rfl];simp,hl,?_⟩
      simpa only [ownB,e1,e4] using hb
    · cases q
  · rcases hN i _ hq with ⟨rfl, _⟩ | ⟨_, q⟩
    · rcases hN i' _ hq' with ⟨rfl, _⟩ | ⟨_, q⟩
      · rfl
      · cases q
    · cases q
  · rcases hN i _ hq with ⟨rfl, q⟩ | ⟨_, q⟩
    · injection q with q; subst q
      refine ⟨n,vals,by rw [e1];exact g1,g2,by rw [e4];exact g3,?_,by rw [e1,e4];exact g5⟩
      rw [e4]
      exact g4.go (LnTo.none _ _) (fun _ _=>rfl) (fun _ _ hf=>hf) (fun v d hr=>rep .pl v d hr (by simp))
    · cases q
theorem imp_renN (t u:Nat) (hM0:∀ b,M0 b→b<w0.w.heap.size) (hnd:Nodup s.s=true) (ht:s.s.lookup t=some (.nst id)) (hl:s.o.lookup id=some (.nar e cs none)) (hne:Nat.beq u id=false) :
    Imp P w0 M0 s (({ n:=s.n,s:=s.s.filter (fun p=>p.2.stays true u&&p.2.stays true id),o:=ins u (.nar e cs none) (dropO id (killP (fun d=>d.stays true u&&d.stays true id) s.o)) }:St).put t (.nst u)):=by
  rintro a w ⟨E,hs⟩
  have h0:=hs.slots t _ ht
  obtain ⟨E',e1,h1⟩:=hs.renN u hnd hM0 hl (fun q=>by rw [q,Nat.beq_refl] at hne;cases hne)
  refine ⟨E',h1.retag h0.1 ⟨fun e' cs' ln hh=>by rw [e1];exact h0.2.1 e cs none hl,fun ks cs' ln hh=>?_⟩⟩
  rw [show (ins u (Ob.nar e cs none) (dropO id (killP (fun d=>d.stays true u&&d.stays true id) s.o))).lookup u=_ from by rw [lookup_ins,if_pos rfl]] at hh
  cases hh
end
end Go.Am

namespace Go.Am
open Go.RowKit
section
variable {P:Program} {w0:Fr} {M0:Nat→Prop} {ops:Array Oper}
end
end Go.Am

namespace Go.Am
open Go.RowKit
section
variable {P:Program} {w0:Fr} {M0:Nat→Prop} {ops:Array Oper}
def phN (E:Nat→Nat) (L:Array Bool):Nat→Nat
  | 0=>0
  | p+1=>if L.getD (E p) false then p+1 else phN E L p
theorem phN_le (E:Nat→Nat) (L:Array Bool):∀ m,phN E L m≤m
  | 0=>Nat.le_refl _
  | m + 1 => by
    unfold phN
    split
    · exact Nat.le_refl _
    · exact Nat.le_succ_of_le (phN_le E L m)
theorem phN_iff {E : Nat → Nat} {L : Array Bool} : ∀ {m : Nat}, (∀ p q, p < q → q < m → L.getD (E q) false = true → L.getD (E p) false = true) → ∀ p, p < m → (L.getD (E p) false = true ↔ p < phN E L m)
  | 0,_,p,h=>absurd h (Nat.not_lt_zero p)
  | m + 1, hc, p, h => by
    unfold phN
    by_cases q:L.getD (E m) false=true
    · rw [if_pos q]
      refine ⟨fun _=>h,fun _=>?_⟩
      by_cases e:p=m
      · rw [e];exact q
      · exact hc p m (by omega) (by omega) q
    · rw [if_neg q]
      by_cases e:p=m
      · subst e
        have:=phN_le E L p
        exact ⟨fun h=>absurd h q,fun h=>by omega⟩
      · exact phN_iff (fun a b h1 h2=>hc a b h1 (by omega)) p (by omega)
theorem phN_eq {E:Nat→Nat} {L:Array Bool} {m t:Nat} (ht:t≤m) (h1:∀ p,p<t→L.getD (E p) false=true) (h2:∀ p,t≤p→p<m→L.getD (E p) false=false):phN E L m=t:=by
  induction m with
  | zero=>unfold phN;omega
  | succ m ih =>
    unfold phN
    by_cases q:t=m+1
    · rw [if_pos (h1 m (by omega))];exact q.symm
    · rw [if_neg (by rw [h2 m (by omega) (by omega)]; decide)]
      exact ih (by omega) fun p hp hm=>h2 p hp (by omega)
def effN (E:Nat→Nat) (m i:Nat):Bool:=(List.range m).any fun p=>Nat.beq i (E p)
theorem effN_iff {E:Nat→Nat} {m i:Nat}:effN E m i=true↔∃ p,p<m∧i=E p:=by
  unfold effN
  rw [List.any_eq_true]
  exact ⟨fun ⟨p,hp,h⟩=>⟨p,List.mem_range.1 hp,Nat.eq_of_beq_eq_true h⟩,fun ⟨p,hp,h⟩=>⟨p,List.mem_range.2 hp,by rw [h];exact Nat.beq_refl _⟩⟩
theorem code_drawN {id : Nat} {n : Nat} {s0 : List (Nat × SV)} (m : Nat) (E : Nat → Nat) (O : Nat → List (Nat × Ob)) (k : Nat) (G : List (Nat × SV)) {Q' : Exit → St → Prop} (hm : P.follows .mixedOrders = true) (hok : drawOk ops = true) (htl : phaseOk ops k = true) (hmid : midOkG ops n k (effN E m) = true) (hks : Nat.ble k ops.size = true)
    (hEk:∀ p,p<m→E p<k) (hch:∀ p q,p<q→q<m→(ancs ops ops.size (E q)).contains (E p)=true) (hinj:∀ p q,p<q→q<m→E p≠E q)
    (hG:∀ t d,(G.filter fun p=>keepL ops k #[] p.1).lookup t=some d→s0.lookup t=some d) (hnd:Nodup G=true)
    (hset:∀ i t,i<k→(ops[i]?).bind (·.dst)=some t→∃ d,G.lookup t=some d)
    (hP:∀ p i o t d,p≤m→i<k→effN E m i=false→ops[i]?=some o→o.dst=some t→G.lookup t=some d→(∀ q,q<p→(ancs ops ops.size (E q)).contains i=false)→(p<m→(ancs ops ops.size i).contains (E p)=false)→Pure P w0 M0 o (restr ops o (St.ev ⟨n,G,O p⟩)) (O p) d)
    (hE:∀ p o X,p<m→ops[E p]?=some o→Nodup X=true→(∀ t d,X.lookup t=some d→G.lookup t=some d)→(∀ t,t∈looks ops o→X.lookup t=G.lookup t)→∃ s',Step P w0 M0 o ⟨n,X,O p⟩ s'∧Imp P w0 M0 s' ⟨n,aftS G X o,O (p+1)⟩)
    (hend:EndL P w0 M0 ops (fun s=>∃ s',Imp P w0 M0 s s'∧Q' .normal s') k ⟨n,G,O m⟩):CodeOk P w0 M0 (.region id ops true) ⟨n,s0,O 0⟩ Q':=by
  obtain ⟨hns,hsp⟩:=drawOk_spec hok
  have hlt:∀ i o,ops[i]?=some o→∀ j∈preds o,j<i:=fun i o ho=>(hsp i o ho).1
  have hks':=Nat.le_of_ble_eq_true hks
  have down:∀ {L:Array Bool} {i:Nat},Closed ops L→L.size=ops.size→L.getD i false=true→∀ j,j∈ancs ops ops.size i→L.getD j false=true:=fun {L i} hc hsz hL j hj=>by
    have hi:i<ops.size:=by
      rcases Nat.lt_or_ge i ops.size with q|q
      · exact q
      · exfalso
        have:L.getD i false=false:=by simp [show ¬ i<L.size by omega]
        rw [hL] at this;cases this
    have hio:ops[i]?=some ops[i]:=Array.getElem?_eq_getElem hi
    exact ancs_listed hc ops.size i ops[i] hio (fun q hq=>hc i _ hio hL q hq) hlt j hj
  have ne_mem:∀ {i j:Nat},(¬ j∈ancs ops ops.size i)→(ancs ops ops.size i).contains j=false:=fun {i j} h=>by
    cases hq:(ancs ops ops.size i).contains j with
    | false=>rfl
    | true=>exact absurd (List.contains_iff_mem.1 hq) h
  have chain:∀ {L:Array Bool},Closed ops L→L.size=ops.size→∀ p q,p<q→q<m→L.getD (E q) false=true→L.getD (E p) false=true:=fun {L} hc hL p q h1 h2 h3=>down hc hL h3 _ (List.contains_iff_mem.1 (hch p q h1 h2))
  refine code_drawG (eff:=effN E m) (oL:=fun L=>O (phN E L m)) (o2:=O m) k G hm hok htl hmid hks hG hnd hset (fun L hL=>?_) (fun L hL=>?_) (fun L i o t d hL hc hanc hLi hik hef ho hd hGd=>?_) (fun L i o X hL hc hanc hLi hik hef ho hX hXG hXr=>?_) hend
  · show O (phN E L m) = O 0
    rw [phN_eq (Nat.zero_le m) (fun p hp=>absurd hp (Nat.not_lt_zero p)) fun p _ _=>hL _]
  · show O (phN E L m) = O m
    rw [phN_eq (Nat.le_refl m) (fun p hp=>hL _ (hEk p hp)) fun p h1 h2=>by omega]
  · have his : i < ops.size := (Array.getElem?_eq_some_iff.1 ho).1
    have hne:∀ p,p<m→i≠E p:=fun p hp e=>by
      have:=effN_iff.2 ⟨p,hp,e⟩
      rw [hef] at this;cases this
    have hiff:=phN_iff (chain hc hL)
    refine ⟨hP _ i o t d (phN_le E L m) hik hef ho hd hGd (fun q hq=>ne_mem fun hmm=>?_) fun hp=>ne_mem fun hmm=>?_,?_⟩
    · have := phN_le E L m
      have:=down hc hL ((hiff q (by omega)).2 hq) i hmm
      rw [hLi] at this;cases this
    · have := (hiff _ hp).1 (hanc _ hmm)
      omega
    · show O (phN E (L.setIfInBounds i true) m) = O (phN E L m)
      congr 1
      refine phN_eq (phN_le E L m) (fun p hp=>?_) fun p h1 h2=>?_
      · have := phN_le E L m
        rw [getD_set (by omega),if_neg (Ne.symm (hne p (by omega)))]
        exact (hiff p (by omega)).2 hp
      · rw [getD_set (by omega), if_neg (Ne.symm (hne p h2))]
        cases hq:L.getD (E p) false with
        | false=>rfl
        | true=>have:=(hiff p h2).1 hq;omega
  · have his : i < ops.size := (Array.getElem?_eq_some_iff.1 ho).1
    obtain ⟨p,hp,rfl⟩:=effN_iff.1 hef
    have later:∀ q,p≤q→q<m→L.getD (E q) false=false:=fun q h1 h2=>by
      by_cases e:q=p
      · rw [e];exact hLi
      · cases hq : L.getD (E q) false with
        | false=>rfl
        | true=>have:=chain hc hL p q (by omega) h2 hq;rw [hLi] at this;cases this
    have before:∀ q,q<p→L.getD (E q) false=true:=fun q h1=>hanc _ (List.contains_iff_mem.1 (hch q p h1 hp))
    have e1:phN E L m=p:=phN_eq (by omega) before later
    have e2:phN E (L.setIfInBounds (E p) true) m=p+1:=phN_eq (by omega) (fun q hq=>by
        rw [getD_set (by omega)]
        by_cases e:q=p
        · rw [e,if_pos rfl]
        · rw [if_neg (hinj q p (by omega) hp)];exact before q (by omega)) fun q h1 h2=>by
        rw [getD_set (by omega),if_neg (Ne.symm (hinj p q (by omega) h2))]
        exact later q (by omega) h2
    show ∃ s',Step P w0 M0 o ⟨n,X,O (phN E L m)⟩ s'∧Imp P w0 M0 s' ⟨n,_,O (phN E (L.setIfInBounds (E p) true) m)⟩
    rw [e1,e2]
    exact hE p o X hp ho hX hXG hXr
end
end Go.Am

