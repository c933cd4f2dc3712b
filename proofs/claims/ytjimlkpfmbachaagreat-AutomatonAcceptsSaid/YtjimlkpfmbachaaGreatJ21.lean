/-
  Own arrays go into what holds own parts;a call hands such a thing back.
-/
import Derived.Test.YtjimlkpfmbachaaGreatJ17
import Derived.Test.YtjimlkpfmbachaaGreatJ16
set_option linter.unusedVariables false
set_option linter.unusedSectionVars false
set_option linter.unusedSimpArgs false
namespace Go.Am
open Go.RowKit
section
variable {P:Program} {w0:Fr} {M0:Nat→Prop} {s:St} {o:Oper} {id t u j:Nat} {e r T:TypeId} {cs:List Cell} {xs:List AV} {x y:Operand} {E:Env} {a:Act} {w:World}
theorem subs_d {f:Nat→Value} {b:Nat} {l:List AV} {ln:Option (Nat×Lend)}:¬ subs f b (l.map Cell.d) ln:=by
  rintro ⟨j,c,h1,_,h2⟩
  rw [List.getElem?_map,Option.map_eq_some_iff] at h1
  obtain ⟨d,_,rfl⟩:=h1
  exact h2
theorem SimE.toNest (h:SimE P w0 M0 E s a w) (hnd:Nodup s.s=true) (hM0:∀ b,M0 b→b<w0.w.heap.size) (hl:s.o.lookup id=some (.arr e xs)) :
    ∃ E':Env,E'.cur=E.cur∧E'.blk=E.blk∧SimE P w0 M0 E' (s.upd true id (.nar e ((flat xs).map Cell.d) none)) a w:=by
  obtain ⟨vals,h1,h2,h3⟩:=h.wok.objs id _ hl
  have hfl:=flat_length xs h2
  obtain ⟨E',f1,f2,f3,f4⟩:∃ E':Env,E'.cur=E.cur∧E'.blk=E.blk∧(∀ i,i≠id→E'.sub i=E.sub i)∧E'.sub id=fun j=>vals.getD j undef:=⟨{ E with sub:=fun i=>if i=id then fun j=>vals.getD j undef else E.sub i },rfl,rfl,fun i hi=>if_neg hi,if_pos rfl⟩
  refine ⟨E',f1,f2,h.upd true (fun q=>by cases q) hnd hM0 (fun i hi=>⟨by rw [f1],by rw [f2]⟩) (.inr (by rw [f2])) none ⟨rfl,rfl,rfl,Nat.le_refl _,fun _ _ _=>rfl⟩ (fun _=>Nat.le_refl _) (fun g hg=>by cases hg) (fun b hb=>.inl ⟨_,hl,?_⟩) (fun rep sv=>?_) f3⟩
  · rcases hb with hb | hb
    · rw [f1] at hb;exact hb
    · exact (subs_d hb).elim
  · refine ⟨xs.length, vals, by rw [f1]; exact h1, by rw [List.length_map, hfl], fun j hj => by rw [f4], ⟨fun j c hc _ => ?_, fun i j ci cj b hi _ _ _ hb _ => ?_, (fun j u hu => by cases hu), (fun j u hu => by cases hu)⟩, fun b hb => (subs_d hb).elim⟩
    · rw [List.getElem?_map, Option.map_eq_some_iff] at hc
      obtain ⟨d,hd,rfl⟩:=hc
      refine ⟨(h3 j d hd).1,?_⟩
      rw [f4]
      exact rep .pl _ _ (h3 j d hd).2 (by simp)
    · rw [List.getElem?_map, Option.map_eq_some_iff] at hi
      obtain ⟨d,_,rfl⟩:=hi
      exact hb.elim
theorem imp_nestB (b j:Nat) {eb:TypeId} {bs bs':List SV} (hM0:∀ b,M0 b→b<w0.w.heap.size) (hnd:Nodup s.s=true) (hb0:s.o.lookup b=some (.box eb bs)) (hj:bs[j]?=some (.own id)) (hl:s.o.lookup id=some (.arr e xs))
    (hb:(s.upd true id (.nar e ((flat xs).map Cell.d) none)).o.lookup b=some (.box eb bs')) (hbl:bs'.length=bs.length)
    (hnd':Nodup (s.upd true id (.nar e ((flat xs).map Cell.d) none)).s=true):Imp P w0 M0 s ((s.upd true id (.nar e ((flat xs).map Cell.d) none)).upd false b (.box eb ((keepC b bs').set j (.nst id)))):=by
  rintro a w ⟨E,hs⟩
  obtain ⟨E',hc,hbk,h1⟩:=hs.toNest hnd hM0 hl
  have hbi:b≠id:=fun q=>by rw [q,hl] at hb0;cases hb0
  obtain ⟨vals0,q1,q2,q3,q4⟩:=hs.wok.objs b _ hb0
  have hv:vals0.getD j undef=E.cur id:=(q4 j _ hj).2.2 e xs hl
  refine ⟨E',h1.upd false (fun _=>⟨rfl,.inr (.inl ⟨eb,bs',_,hb,rfl⟩)⟩) hnd' hM0 (fun i hi=>⟨rfl,rfl⟩) (.inr rfl) none ⟨rfl,rfl,rfl,Nat.le_refl _,fun _ _ _=>rfl⟩ (fun _=>Nat.le_refl _) (fun g hg=>by cases hg) (fun b' hb'=>.inl ⟨_,hb,hb'⟩) (fun rep sv=>?_)⟩
  obtain ⟨vals,g1,g2,g3,g4⟩:=h1.wok.objs b _ hb
  have hvv:vals=vals0:=by
    rw [hbk,q1] at g1
    simp only [Option.some.injEq,Obj.cells.injEq] at g1
    have:=g1.1
    simpa using this.symm
  subst hvv
  refine ⟨vals,g1,g2,by simpa [keepC] using g3,fun i d hd=>?_⟩
  by_cases hi:j=i
  · subst hi
    have hjl:j<bs'.length:=by rw [hbl];exact (List.getElem?_eq_some_iff.1 hj).1
    rw [List.getElem?_set_self (by simpa [keepC] using hjl)] at hd
    simp only [Option.some.injEq] at hd
    subst hd
    have h0:=q4 j _ hj
    refine ⟨rfl,h0.2.1,fun e1 c1 l1 hh=>by rw [hc];exact hv,fun k1 c1 l1 hh=>?_⟩
    exfalso
    rw [show (ins b (Ob.box eb ((keepC b bs').set j (.nst id))) (killO false b (s.upd true id (.nar e ((flat xs).map Cell.d) none)).o)).lookup id=some (killOb false b (.nar e ((flat xs).map Cell.d) none)) from by
      rw [lookup_ins,if_neg (Ne.symm hbi),lookup_killO]
      show ((ins id _ _).lookup id).map _=_
      rw [lookup_ins,if_pos rfl];rfl] at hh
    cases hh
  · rw [List.getElem?_set_ne hi] at hd
    simp only [keepC,List.getElem?_map,Option.map_eq_some_iff] at hd
    obtain ⟨d0,hd0,rfl⟩:=hd
    have:=g4 i d0 hd0
    split
    · exact ⟨this.1,this.2.1,sv _ _ this.2.2 ‹_›⟩
    · exact ⟨rfl,this.2.1,trivial⟩
theorem SimE.borrow (h : SimE P w0 M0 E s a w) (hnd : Nodup s.s = true) (hM0 : ∀ b, M0 b → b < w0.w.heap.size) (hl : s.o.lookup id = some (.nar e cs none)) (hc : cs[j]? = some (.row r xs)) (hu : u ≠ id) :
    ∃ E':Env,E'.cur u=E.sub id j∧SimE P w0 M0 E' { n:=s.n,s:=s.s.filter (fun p=>p.2.stays true u),o:=ins u (.arr r xs) (ins id (.nar e cs (some (j,.arr u))) (killO true u s.o)) } a w:=by
  obtain ⟨n,vals,g1,g2,g3,g4,g5⟩:=h.wok.objs id _ hl
  have hrow:=g4.ok j _ hc (by simp)
  obtain ⟨E',e2,e1,e3,e4⟩:∃ E':Env,E'.cur u=E.sub id j∧(∀ i,i≠u→E'.cur i=E.cur i)∧E'.blk=E.blk∧E'.sub=E.sub:=⟨{ E with cur:=fun i=>if i=u then E.sub id j else E.cur i },if_pos rfl,fun i hi=>if_neg hi,rfl,rfl⟩
  refine ⟨E',e2,?_⟩
  have hN:∀ i q,(if i=u then some (some (Ob.arr r xs)) else if i=id then some (some (.nar e cs (some (j,.arr u)))) else none:Option (Option Ob))=some q→(i=u∧q=some (.arr r xs))∨(i=id∧q=some (.nar e cs (some (j,.arr u)))):=fun i q hq=>by
    by_cases h1:i=u
    · rw [if_pos h1] at hq;injection hq with hq;exact .inl ⟨h1,hq.symm⟩
    · rw [if_neg h1] at hq
      by_cases h2:i=id
      · rw [if_pos h2] at hq;injection hq with hq;exact .inr ⟨h2,hq.symm⟩
      · rw [if_neg h2] at hq;cases hq
  have hsubs:∀ f b,subs f b cs (some (j,.arr u))→subs f b cs none:=fun f b ⟨i,c,q1,q2,q3⟩=>⟨i,c,q1,by simp,q3⟩
  refine SimE.updL (E':=E') (SV.stays true u) (fun i=>if i=u then some (some (.arr r xs)) else if i=id then some (some (.nar e cs (some (j,.arr u)))) else none) _ (fun i=>?_) (fun d=>rfl) (fun i ob hq hx=>?_) (fun i hq=>?_) h hnd hM0 (fun i hq=>?_) (fun x hx=>by rw [e3]) none ⟨rfl,rfl,rfl,Nat.le_refl _,fun _ _ _=>rfl⟩ (fun _=>Nat.le_refl _) (fun g hg=>by cases hg) (fun i ob b hq hb=>.inl ?_) (fun i ob i' ob' b hq hq' hb hb'=>?_) (fun rep sv lents i ob hq=>?_)
  · rw [lookup_ins]
    by_cases h1:i=u
    · rw [if_pos h1,if_pos h1]
    · rw [if_neg h1, if_neg h1, lookup_ins]
      by_cases h2:i=id
      · rw [if_pos h2,if_pos h2]
      · rw [if_neg h2,if_neg h2];exact lookup_killO true u i s.o
  · rcases hN i _ hq with ⟨rfl, _⟩ | ⟨rfl, q⟩
    · obtain ⟨d, h1, h2⟩ := hx
      rw [stays_refs h1] at h2;cases h2
    · injection q with q; subst q
      exact ⟨e1 i (Ne.symm hu),by rw [e3],.inr (.inr (.inr (.inl ⟨e,cs,none,cs,_,hl,rfl,Nat.le_refl _⟩)))⟩
  · rcases hN i _ hq with ⟨_,q⟩|⟨_,q⟩<;>cases q
  · refine ⟨e1 i fun q => ?_, by rw [e3], by rw [e4]⟩
    rw [if_pos q] at hq;cases hq
  · refine ⟨id, _, by rw [if_neg (Ne.symm hu), if_pos rfl]; simp, hl, ?_⟩
    rcases hN i _ hq with ⟨rfl,q⟩|⟨rfl,q⟩
    · injection q with q; subst q
      have hb:(E'.cur i).ownBlock=some b:=hb
      rw [e2] at hb
      exact .inr ⟨j,_,hc,by simp,hb⟩
    · injection q with q; subst q
      rcases hb with hb|hb
      · rw [e1 i (Ne.symm hu)] at hb;exact .inl hb
      · rw [e4] at hb;exact .inr (hsubs _ _ hb)
  · have key : ∀ b, (E.sub id j).ownBlock = some b → ownB E' id b (.nar e cs (some (j, .arr u))) → False := fun b h1 h2 => by
      rcases h2 with h2|⟨i2,c2,q1,q2,q3⟩
      · rw [e1 id (Ne.symm hu)] at h2
        exact g5 b ⟨j,_,hc,by simp,h1⟩ h2
      · rw [e4] at q3
        have:=g4.apart i2 j c2 _ b q1 hc (by simp) (by simp) q3 h1
        subst this
        exact q2 rfl
    rcases hN i _ hq with ⟨rfl,q⟩|⟨rfl,q⟩
    · injection q with q; subst q
      rcases hN i' _ hq' with ⟨rfl,q'⟩|⟨rfl,q'⟩
      · rfl
      · injection q' with q'; subst q'
        exact (key b (by rw [← e2];exact hb) hb').elim
    · injection q with q; subst q
      rcases hN i' _ hq' with ⟨rfl,q'⟩|⟨rfl,q'⟩
      · injection q' with q'; subst q'
        exact (key b (by rw [← e2];exact hb') hb).elim
      · rfl
  · rcases hN i _ hq with ⟨rfl, q⟩ | ⟨rfl, q⟩
    · injection q with q; subst q
      obtain ⟨vals',h1,h2,h3⟩:=hrow
      exact ⟨vals',by rw [e2];exact h1,h2,fun k d hd=>⟨(h3 k d hd).1,rep .pl _ _ (h3 k d hd).2 (by simp)⟩⟩
    · injection q with q; subst q
      refine ⟨n,vals,by rw [e1 i (Ne.symm hu)];exact g1,g2,by rw [e4];exact g3,⟨fun k c hk hn=>by rw [e4];exact (g4.ok k c hk (by simp)).go (fun _ _=>rfl) (fun _ _ hf=>hf) (fun v d hr=>rep .pl v d hr (by simp)),fun i1 i2 c1 c2 b h1 h2 _ _ h5 h6=>by rw [e4] at h5 h6;exact g4.apart i1 i2 c1 c2 b h1 h2 (by simp) (by simp) h5 h6,fun k u' hk=>?_,(fun k u' hk=>by cases hk)⟩,fun b hb=>by rw [e1 i (Ne.symm hu)];rw [e4] at hb;exact g5 b (hsubs _ _ hb)⟩
      cases hk
      rw [e4];exact e2.symm
def dropO (u:Nat) (o:List (Nat×Ob)):List (Nat×Ob):=o.filter fun p=>!(Nat.beq p.1 u)
theorem lookup_dropO (u i : Nat) : ∀ o : List (Nat × Ob), (dropO u o).lookup i = if i = u then none else o.lookup i
  | []=>by unfold dropO;simp
  | (t, d) :: r => by
    have ih:=lookup_dropO u i r
    unfold dropO at ih ⊢
    rw [List.filter_cons]
    by_cases h:t=u
    · subst h
      rw [if_neg (by simp),ih,lookup_cons']
      by_cases hi:i=t
      · rw [if_pos hi,if_pos hi]
      · rw [if_neg hi,if_neg hi,if_neg hi]
    · have hb : (!(Nat.beq t u)) = true := by
        cases q:Nat.beq t u with
        | false=>rfl
        | true=>exact absurd (Nat.eq_of_beq_eq_true q) h
      rw [if_pos hb,lookup_cons',lookup_cons',ih]
      by_cases hi:i=t
      · rw [if_pos hi,if_pos hi,if_neg (by rw [hi];exact h)]
      · rw [if_neg hi,if_neg hi]
theorem SimE.giveback (h : SimE P w0 M0 E s a w) (hnd : Nodup s.s = true) (hM0 : ∀ b, M0 b → b < w0.w.heap.size) (hl : s.o.lookup id = some (.nar e cs (some (j, .arr u)))) (hj : j < cs.length) (hlu : s.o.lookup u = some (.arr r xs)) :
    SimE P w0 M0 E { n:=s.n,s:=s.s.filter (fun p=>p.2.stays true u),o:=ins id (.nar e (cs.set j (.row r xs)) none) (dropO u (killO true u s.o)) } a w:=by
  have hu:u≠id:=fun q=>by rw [q,hl] at hlu;cases hlu
  obtain ⟨n,vals,g1,g2,g3,g4,g5⟩:=h.wok.objs id _ hl
  have hv:=g4.larr j u rfl
  have hN:∀ i q,(if i=u then some none else if i=id then some (some (Ob.nar e (cs.set j (.row r xs)) none)) else none:Option (Option Ob))=some q→(i=u∧q=none)∨(i=id∧q=some (.nar e (cs.set j (.row r xs)) none)):=fun i q hq=>by
    by_cases h1:i=u
    · rw [if_pos h1] at hq;injection hq with hq;exact .inl ⟨h1,hq.symm⟩
    · rw [if_neg h1] at hq
      by_cases h2:i=id
      · rw [if_pos h2] at hq;injection hq with hq;exact .inr ⟨h2,hq.symm⟩
      · rw [if_neg h2] at hq;cases hq
  have hcell:∀ (k:Nat) c,(cs.set j (.row r xs))[k]?=some c→(k=j∧c=.row r xs)∨(k≠j∧cs[k]?=some c):=fun k c hk=>by
    by_cases q:k=j
    · subst q
      rw [List.getElem?_set_self hj] at hk
      exact .inl ⟨rfl,by injection hk with hk;exact hk.symm⟩
    · rw [List.getElem?_set_ne (Ne.symm q)] at hk
      exact .inr ⟨q,hk⟩
  have hne:∀ k,k≠j→(some (j,Lend.arr u)).map (·.1)≠some k:=fun k q q2=>by
    injection q2 with q2;exact q q2.symm
  have hsub:∀ b,subs (E.sub id) b (cs.set j (.row r xs)) none→ownB E u b (.arr r xs)∨subs (E.sub id) b cs (some (j,.arr u)):=fun b ⟨k,c,q1,_,q3⟩=>by
    rcases hcell k c q1 with ⟨rfl,rfl⟩|⟨q4,q5⟩
    · refine .inl ?_
      show (E.cur u).ownBlock=some b
      rw [← hv];exact q3
    · exact .inr ⟨k,c,q5,hne k q4,q3⟩
  refine SimE.updL (E':=E) (SV.stays true u) (fun i=>if i=u then some none else if i=id then some (some (.nar e (cs.set j (.row r xs)) none)) else none) _ (fun i=>?_) (fun d=>rfl) (fun i ob hq hx=>?_) (fun i hq=>⟨rfl,rfl⟩) h hnd hM0 (fun i hq=>⟨rfl,rfl,rfl⟩) (fun x hx=>rfl) none ⟨rfl,rfl,rfl,Nat.le_refl _,fun _ _ _=>rfl⟩ (fun _=>Nat.le_refl _) (fun g hg=>by cases hg) (fun i ob b hq hb=>.inl ?_) (fun i ob i' ob' b hq hq' hb hb'=>?_) (fun rep sv lents i ob hq=>?_)
  · rw [lookup_ins]
    by_cases h2:i=id
    · rw [if_pos h2,if_neg (fun q=>hu (q.symm.trans h2)),if_pos h2]
    · rw [if_neg h2, lookup_dropO]
      by_cases h1:i=u
      · rw [if_pos h1,if_pos h1]
      · rw [if_neg h1,if_neg h1,if_neg h2];exact lookup_killO true u i s.o
  · rcases hN i _ hq with ⟨_, q⟩ | ⟨rfl, q⟩
    · cases q
    · injection q with q; subst q
      exact ⟨rfl,rfl,.inr (.inr (.inr (.inl ⟨e,cs,_,_,_,hl,rfl,by rw [List.length_set];exact Nat.le_refl _⟩)))⟩
  · rcases hN i _ hq with ⟨_, q⟩ | ⟨rfl, q⟩
    · cases q
    · injection q with q; subst q
      rcases hb with hb|hb
      · exact ⟨i,_,by rw [if_neg (Ne.symm hu),if_pos rfl];simp,hl,.inl hb⟩
      · rcases hsub b hb with q1 | q1
        · exact ⟨u,_,by rw [if_pos rfl];simp,hlu,q1⟩
        · exact ⟨i,_,by rw [if_neg (Ne.symm hu),if_pos rfl];simp,hl,.inr q1⟩
  · rcases hN i _ hq with ⟨_, q⟩ | ⟨rfl, _⟩
    · cases q
    · rcases hN i' _ hq' with ⟨_, q⟩ | ⟨rfl, _⟩
      · cases q
      · rfl
  · rcases hN i _ hq with ⟨_, q⟩ | ⟨rfl, q⟩
    · cases q
    · injection q with q; subst q
      obtain ⟨vals',h1,h2,h3⟩:=h.wok.objs u _ hlu
      have apart:∀ b,ownB E u b (.arr r xs)→ownB E i b (.nar e cs (some (j,.arr u)))→False:=fun b q1 q2=>hu (h.wok.disj u _ i _ b hlu hl q1 q2)
      have blk:∀ b,(E.sub i j).ownBlock=some b→ownB E u b (.arr r xs):=fun b q=>by
        show (E.cur u).ownBlock=some b
        rw [← hv];exact q
      refine ⟨n,vals,g1,by rw [List.length_set];exact g2,fun k hk=>g3 k (by rwa [List.length_set] at hk),⟨fun k c hk _=>?_,fun i1 i2 c1 c2 b q1 q2 _ _ q5 q6=>?_,(fun k u' hk=>by cases hk),(fun k u' hk=>by cases hk)⟩,fun b hb=>?_⟩
      · rcases hcell k c hk with ⟨rfl, rfl⟩ | ⟨q4, q5⟩
        · exact ⟨vals',by rw [hv];exact h1,h2,fun k d hd=>⟨(h3 k d hd).1,rep .pl _ _ (h3 k d hd).2 (by simp)⟩⟩
        · exact (g4.ok k c q5 (hne k q4)).go (fun _ _=>rfl) (fun _ _ hf=>hf) (fun v d hr=>rep .pl v d hr (by simp))
      · rcases hcell i1 c1 q1 with ⟨rfl, rfl⟩ | ⟨p1, p2⟩
        · rcases hcell i2 c2 q2 with ⟨rfl, rfl⟩ | ⟨p3, p4⟩
          · rfl
          · exact (apart b (blk b q5) (.inr ⟨i2,c2,p4,hne i2 p3,q6⟩)).elim
        · rcases hcell i2 c2 q2 with ⟨rfl, rfl⟩ | ⟨p3, p4⟩
          · exact (apart b (blk b q6) (.inr ⟨i1,c1,p2,hne i1 p1,q5⟩)).elim
          · exact g4.apart i1 i2 c1 c2 b p2 p4 (hne i1 p1) (hne i2 p3) q5 q6
      · rcases hsub b hb with q1 | q1
        · exact fun q=>apart b q1 (.inl q)
        · exact g5 b q1
theorem imp_giveback (hM0:∀ b,M0 b→b<w0.w.heap.size) (hnd:Nodup s.s=true) (hl:s.o.lookup id=some (.nar e cs (some (j,.arr u)))) (hj:j<cs.length) (hlu:s.o.lookup u=some (.arr r xs)) :
    Imp P w0 M0 s { n:=s.n,s:=s.s.filter (fun p=>p.2.stays true u),o:=ins id (.nar e (cs.set j (.row r xs)) none) (dropO u (killO true u s.o)) }:=fun a w ⟨E,hs⟩=>⟨E,hs.giveback hnd hM0 hl hj hlu⟩
theorem code_giveback {y:Code} {Q:Exit→St→Prop} (id u:Nat) (hM0:∀ b,M0 b→b<w0.w.heap.size) (hnd:Nodup s.s=true) (hl:s.o.lookup id=some (.nar e cs (some (j,.arr u)))) (hj:j<cs.length) (hlu:s.o.lookup u=some (.arr r xs))
    (h:CodeOk P w0 M0 y { n:=s.n,s:=s.s.filter (fun p=>p.2.stays true u),o:=ins id (.nar e (cs.set j (.row r xs)) none) (dropO u (killO true u s.o)) } Q):CodeOk P w0 M0 y s Q:=CodeOk.imp (imp_giveback hM0 hnd hl hj hlu) h
end
end Go.Am

namespace Go.Am
open Go.RowKit
section
variable {P:Program} {w0:Fr} {M0:Nat→Prop} {s:St} {o:Oper} {ρ:Operand→Option SV} {ob:List (Nat×Ob)} {id t u j k b:Nat} {e r T:TypeId} {cs:List Cell} {ln:Option (Nat×Lend)} {xs:List AV} {x y:Operand}
theorem nst_slice {w:World} {E:Env} {o:List (Nat×Ob)} (h:ObOk P w0 M0 w E o id (.nar e cs ln)) (hk:szOf P e=some 1):(E.cur id=.slice none 0 0∧cs.length=0)∨∃ g cap,E.cur id=.slice (some ⟨g,0,none⟩) cs.length cap:=by
  obtain ⟨n,vals,h1,h2,h3,h4,h5⟩:=h
  have hn:cs.length=n:=by rw [h2,cellsOf_of hk,Nat.mul_one]
  rcases h1.1.2 with ⟨hv,h0⟩|⟨g,cap,cur,hv,_⟩
  · exact .inl ⟨hv,by omega⟩
  · exact .inr ⟨g,cap,by rw [hv,hn]⟩
theorem pure_len_nst (ho:o.op=.call { callee:=.builtin .len,args:=#[x],argTypes:=#[T] }) (hT:P.underlying T=some (.slice e)) (hk:szOf P e=some 1) (hx:ρ x=some (.nst id)) (hl:ob.lookup id=some (.nar e cs ln)) :
    Pure P w0 M0 o ρ ob (.v .pl (.sc (.int .i64 cs.length))) :=
  pure_value fun E w ev hw h=>by
    have hv:=(h x _ hx).1 e cs ln hl
    refine ⟨.int .i64 cs.length,w,?_,.refl _ _,.sc _ rfl⟩
    rcases nst_slice (hw.objs id _ hl) hk with ⟨q,h0⟩|⟨g,cap,q⟩
    · rw [q] at hv
      simp [execOp,ho,resolve,hv,invoke,builtin,Builtin.len_,run_underlying hT,goInt,h0]
    · rw [q] at hv
      simp [execOp,ho,resolve,hv,invoke,builtin,Builtin.len_,run_underlying hT,goInt]
theorem pure_index_nst {q : IntKind} {i : Int} (ho : o.op = .indexAddr T x y) (hT : P.underlying T = some (.slice e)) (hk : szOf P e = some 1) (hx : ρ x = some (.nst id)) (hl : ob.lookup id = some (.nar e cs ln)) (hy : scal ρ y = some (.int q i)) (h : 0 ≤ i ∧ i < cs.length) :
    Pure P w0 M0 o ρ ob (.nel id i.toNat) :=
  pure_value fun E w ev hw hh=>by
    have hr:=(hh x _ hx).1 e cs ln hl
    have hi:=scal_ok hh hy
    rcases nst_slice (hw.objs id _ hl) hk with ⟨_,h0⟩|⟨g,cap,hv⟩
    · omega
    · rw [hv] at hr
      have hel:P.elem T=e:=by simp [Program.elem,hT]
      refine ⟨.pointer (some ⟨g,i.toNat,none⟩),w,?_,.refl _ _,fun e' cs' ln' h'=>?_⟩
      · have hin : 0 ≤ i ∧ i < (cs.length : Int) := h
        simp [execOp,ho,hr,hi,run_indexAt_slice,hel,hT,hin,run_size hk,Addr.add_lit]
      · rw [hl] at h'
        simp only [Option.some.injEq,Ob.nar.injEq] at h'
        obtain ⟨_,rfl,_⟩:=h'
        exact ⟨by omega,g,by rw [hv];rfl,rfl⟩
theorem nel_load {w:World} {E:Env} {o':List (Nat×Ob)} {v:Value} {g:Nat} (h:ObOk P w0 M0 w E o' id (.nar e cs ln)) (hj:j<cs.length) (hg:(E.cur id).ownBlock=some g) (hv:v=.pointer (some ⟨g,j,none⟩)) (ho:o.op=.load T x) (hT:isAggOf P T=some false) {ev:Operand→Value} (hx:ev x=v) :
    (execOp ev o).run P w=.ok (.value (E.sub id j)) w:=by
  obtain ⟨n,vals,h1,h2,h3,h4,h5⟩:=h
  have hvl:j<vals.length:=by rw [h1.1.1,← h2];exact hj
  have hcell:=h1.1.cells hg j _ (List.getElem?_eq_getElem hvl)
  rw [Addr.add_lit,Nat.zero_add] at hcell
  have e1:vals[j]=E.sub id j:=by
    rw [← h3 j hj,List.getD_eq_getElem?_getD,List.getElem?_eq_getElem hvl];rfl
  rw [e1] at hcell
  simp [execOp,ho,hx,hv,Instr.loadAt,Instr.sureAddr,loadVar,run_isAggOf hT,hcell]
theorem pure_load_lent (ho:o.op=.load T x) (hT:isAggOf P T=some false) (hx:ρ x=some (.nel id j)) (hl:ob.lookup id=some (.nar e cs (some (j,.arr u)))):Pure P w0 M0 o ρ ob (.own u) :=
  pure_value fun E w ev hw h=>by
    obtain ⟨hj,g,hg,hv⟩:=h x _ hx e cs _ hl
    have h0:=hw.objs id _ hl
    have hr:=nel_load h0 hj hg hv ho hT (ev:=ev) rfl
    obtain ⟨n,vals,h1,h2,h3,h4,h5⟩:=h0
    exact ⟨_,w,hr,.refl _ _,fun _ _ _=>h4.larr j u rfl⟩
theorem step_store_box_nst {off:Nat} {eb:TypeId} {bs:List SV} (ho:o.op=.store T x y) (hd:o.dst=none) (hnd:Nodup s.s=true) (hk:szOf P T=some 1) (hx:s.ev x=some (.pbox id off)) (hl:s.o.lookup id=some (.box eb bs)) (hy:s.ev y=some (.nst j)) (hj:s.o.lookup j=some (.nar e cs ln)) (hek:szOf P e=some 1)
    (hle:Nat.ble (off+1) bs.length=true) (hM0:∀ b,M0 b→b<w0.w.heap.size):Step P w0 M0 o s (s.upd false id (.box eb (spl (keepC id bs) off [.nst j]))):=by
  rintro a w Q ⟨E,hs⟩
  have hle':=Nat.le_of_ble_eq_true hle
  have hxv:=hs.ev hx eb bs hl
  have hyv:a.eval y=E.cur j:=(hs.ev hy).1 e cs ln hj
  have hsl:∃ A n c',a.eval y=.slice A n c':=by
    rw [hyv]
    rcases nst_slice (hs.wok.objs j _ hj) hek with ⟨h,_⟩|⟨g,cap,h⟩<;>exact ⟨_,_,_,h⟩
  obtain ⟨A,n,c',hsl⟩:=hsl
  obtain ⟨vals,h1,h2,h3,h4⟩:=hs.wok.objs id _ hl
  have hrun:=run_storeVar (P:=P) (w:=w) (v:=.slice A n c') (p:=off) hk rfl h1 (by simp;omega) (by simp [Value.cells,Value.oneCell'])
  unfold Oper.wp
  have hexec:(execOp a.eval o).run P w=.ok .skip (w.setRow (E.blk id) (spl vals off [.slice A n c']).toArray):=by
    simp [execOp,ho,hxv,hsl,Instr.storeAt,Instr.sureAddr,hrun,Value.cells]
  rw [hexec]
  simp only [Oper.upon,hd,Act.put]
  have hspl:off+[Value.slice A n c'].length≤vals.length:=by simp;omega
  refine ⟨E,hs.upd false (fun _=>⟨rfl,.inr (.inl ⟨eb,bs,_,hl,rfl⟩)⟩) hnd hM0 (fun i hi=>⟨rfl,rfl⟩) (.inr rfl) (some (E.blk id)) setRow_grown (fun _=>Nat.le_refl _) (fun g hg=>⟨_,hl,by simpa [ownB] using hg⟩) (fun b hb=>.inl ⟨_,hl,hb⟩) (fun rep sv=>?_)⟩
  refine ⟨_,setRow_heap w _ _ _ eb _ h1,h2,?_,fun j' d hj'=>?_⟩
  · rw [spl_length hspl,spl_length (by simp [keepC];omega)];simp [keepC,h3]
  · rw [spl_get (by simp [keepC]; omega)] at hj'
    rw [List.getD_eq_getElem?_getD,spl_get hspl]
    simp only [List.length_singleton] at hj' ⊢
    split at hj'
    · rename_i hin
      rw [if_pos hin]
      have hz:j'-off=0:=by omega
      rw [hz] at hj' ⊢
      simp only [List.getElem?_cons_zero,Option.some.injEq] at hj'
      subst hj'
      simp only [List.getElem?_cons_zero,Option.getD_some]
      refine ⟨rfl,rfl,sv _ _ ?_ rfl⟩
      rw [← hsl]
      exact hs.ev hy
    · rename_i hin
      rw [if_neg hin]
      simp only [keepC,List.getElem?_map,Option.map_eq_some_iff] at hj'
      obtain ⟨d0,hd0,rfl⟩:=hj'
      have:=h4 j' d0 hd0
      rw [List.getD_eq_getElem?_getD] at this
      split
      · exact ⟨this.1,this.2.1,sv _ _ this.2.2 ‹_›⟩
      · exact ⟨rfl,this.2.1,trivial⟩
end
end Go.Am

namespace Go.Am
open Go.RowKit
section
variable {P:Program} {w0:Fr} {M0:Nat→Prop} {s:St} {o:Oper} {id id2 t u j k b:Nat} {e r T:TypeId} {cs cs2:List Cell} {xs:List AV} {x y:Operand}
theorem LnTo.none (E E':Env):LnTo E E' .none .none:=⟨rfl,(fun j u hu=>by cases hu),(fun j u hu=>by cases hu)⟩
theorem subs_one {f:Nat→Value} {b:Nat}:subs f b [.row r xs] none↔(f 0).ownBlock=some b:=by
  constructor
  · rintro ⟨j, c, h1, _, h3⟩
    cases j with
    | zero=>simp only [List.getElem?_cons_zero,Option.some.injEq] at h1;subst h1;exact h3
    | succ j=>simp at h1
  · exact fun h=>⟨0,_,rfl,by simp,h⟩
theorem step_litN (ho : o.op = .buildSlice T 1 #[(0, x)]) (hd : o.dst = some t) (hn : Nat.blt t s.n = true) (hpt : Nat.blt t 1000000 = true) (hne : Nat.beq t u = false) (hnd : Nodup s.s = true) (hT : P.underlying T = some (.slice e)) (hel : elOk P e 1 b = true) (hx : s.ev x = some (.own u)) (hl : s.o.lookup u = some (.arr r xs)) (hM0 : ∀ b, M0 b → b < w0.w.heap.size) :
    Step P w0 M0 o s (({ n:=s.n,s:=s.s.filter (fun p=>p.2.stays true t&&p.2.stays true u),o:=ins t (.nar e [.row r xs] none) (dropO u (killP (fun d=>d.stays true t&&d.stays true u) s.o)) }:St).put t (.nst t)):=by
  rintro a w Q ⟨E,hs⟩
  obtain ⟨i,z,hi,hz,hsz,hby,hzs,hk0,hck⟩:=elOk_spec hel
  have htu:t≠u:=fun q=>by rw [q,Nat.beq_refl] at hne;cases hne
  have hv:a.eval x=E.cur u:=hs.ev hx r xs hl
  obtain ⟨vals',h1,h2,h3⟩:=hs.wok.objs u _ hl
  have hone:(E.cur u).cells=#[E.cur u]∧(E.cur u).oneCell'=true:=by
    rcases h1.1.2 with ⟨q,_⟩|⟨g,cap,cur,q,_⟩<;>rw [q]<;>exact ⟨rfl,rfl⟩
  have hrun:=run_literal (P:=P) (w:=w) (n:=1) (parts:=[E.cur u]) (ps:=#[(0,x)].map fun (i,x)=>(i,a.eval x)) hT hel (by simp [hv]) rfl (fun v hv=>by rw [List.mem_singleton.1 hv,hone.1];rfl) (by decide) (by decide)
  have hfm:([E.cur u].flatMap fun v=>v.cells.toList)=[E.cur u]:=by simp [hone.1]
  rw [hfm] at hrun
  unfold Oper.wp
  have hexec:(execOp a.eval o).run P w=.ok (.value (.slice (some ⟨w.heap.size,0,none⟩) 1 1)) (w.alloc (.cells [E.cur u].toArray e)):=by
    simp only [execOp,ho,Sem.run_bind,hrun,Result.andThen_ok,Sem.run_pure]
  rw [hexec]
  simp only [Oper.upon,hd]
  obtain ⟨E',e1,e2,e3,e4,e5⟩:∃ E':Env,E'.cur t=.slice (some ⟨w.heap.size,0,none⟩) 1 1∧(∀ i,i≠t→E'.cur i=E.cur i)∧E'.blk=E.blk∧(E'.sub t=fun _=>E.cur u)∧(∀ i,i≠t→E'.sub i=E.sub i) :=
    ⟨{ E with cur:=fun i=>if i=t then .slice (some ⟨w.heap.size,0,none⟩) 1 1 else E.cur i,sub:=fun i=>if i=t then fun _=>E.cur u else E.sub i },if_pos rfl,fun i hi=>if_neg hi,rfl,if_pos rfl,fun i hi=>if_neg hi⟩
  have hN:∀ i q,(if i=t then some (some (Ob.nar e [.row r xs] none)) else if i=u then some none else none:Option (Option Ob))=some q→(i=t∧q=some (.nar e [.row r xs] none))∨(i=u∧q=none):=fun i q hq=>by
    by_cases h1:i=t
    · rw [if_pos h1] at hq;injection hq with hq;exact .inl ⟨h1,hq.symm⟩
    · rw [if_neg h1] at hq
      by_cases h2:i=u
      · rw [if_pos h2] at hq;injection hq with hq;exact .inr ⟨h2,hq.symm⟩
      · rw [if_neg h2] at hq;cases hq
  refine ⟨E',SimE.put ?_ (by simpa using hn) ⟨fun _ _ _ _=>e1.symm,fun ks c l hh=>?_⟩⟩
  · refine SimE.updL (E' := E') (fun d => d.stays true t && d.stays true u) (fun i => if i = t then some (some (.nar e [.row r xs] none)) else if i = u then some none else none) _ (fun i => ?_) (fun d => rfl) (fun i ob hq hx => ?_) (fun i hq => ?_) hs hnd hM0 (fun i hq => ?_) (fun x hx => by rw [e3]) none (World.grownBy_alloc w _ none) (fun _ => Nat.le_refl _) (fun g hg => by cases hg) (fun i ob b' hq hb => ?_) (fun i ob i' ob' b' hq hq' hb hb' => ?_) (fun rep sv lents i ob hq => ?_)
    · rw [lookup_ins]
      by_cases q1:i=t
      · rw [if_pos q1,if_pos q1]
      · rw [if_neg q1, if_neg q1, lookup_dropO]
        by_cases q2:i=u
        · rw [if_pos q2,if_pos q2]
        · rw [if_neg q2,if_neg q2];exact lookup_killP _ i s.o
    · rcases hN i _ hq with ⟨rfl, _⟩ | ⟨_, q⟩
      · obtain ⟨d, q1, q2⟩ := hx
        rw [stays_refs q1] at q2;cases q2
      · cases q
    · rcases hN i _ hq with ⟨_, q⟩ | ⟨rfl, _⟩
      · cases q
      · exact ⟨e2 i (Ne.symm htu),by rw [e3]⟩
    · have hit : i ≠ t := fun q => by rw [if_pos q] at hq; cases hq
      exact ⟨e2 i hit,by rw [e3],e5 i hit⟩
    · rcases hN i _ hq with ⟨rfl, q⟩ | ⟨_, q⟩
      · injection q with q; subst q
        rcases hb with hb|hb
        · rw [e1] at hb;simp only [Value.ownBlock,Option.some.injEq] at hb;exact .inr (by omega)
        · rw [e4] at hb
          exact .inl ⟨u,_,by rw [if_neg (Ne.symm htu),if_pos rfl];simp,hl,subs_one.1 hb⟩
      · cases q
    · rcases hN i _ hq with ⟨rfl, _⟩ | ⟨_, q⟩
      · rcases hN i' _ hq' with ⟨rfl, _⟩ | ⟨_, q⟩
        · rfl
        · cases q
      · cases q
    · rcases hN i _ hq with ⟨rfl, q⟩ | ⟨_, q⟩
      · injection q with q; subst q
        have hlt:∀ b',(E.cur u).ownBlock=some b'→b'<w.heap.size:=fun b' q=>(h1.1.lt b' q).2
        refine ⟨1,[E.cur u],?_,by rw [hck];rfl,fun j hj=>?_,⟨fun j c hc _=>?_,fun i1 i2 c1 c2 b' q1 q2 _ _ _ _=>?_,(fun j u' hu=>by cases hu),(fun j u' hu=>by cases hu)⟩,fun b' hb=>?_⟩
        · rw [e1, hck]
          exact ⟨⟨rfl,.inr ⟨w.heap.size,1,[E.cur u].toArray,rfl,Nat.zero_le _,heap_alloc_new w _,Nat.le_refl _,by simp [maxLen],rfl,rfl⟩⟩,fun b' hb=>hs.wok.new_free hM0 (by simp only [Value.ownBlock,Option.some.injEq] at hb;omega)⟩
        · have : j = 0 := by simp at hj; omega
          subst this
          rw [e4];rfl
        · cases j with
          | zero =>
            simp only [List.getElem?_cons_zero,Option.some.injEq] at hc
            subst hc
            rw [e4]
            exact ⟨vals',⟨h1.1.kept (World.grownBy_alloc w _ none) (by cases (E.cur u).ownBlock<;>simp),h1.2⟩,h2,fun k d hd=>⟨(h3 k d hd).1,rep .pl _ _ (h3 k d hd).2 (by simp)⟩⟩
          | succ j=>simp at hc
        · have : i1 < 1 := by have := (List.getElem?_eq_some_iff.1 q1).1; simpa using this
          have:i2<1:=by have:=(List.getElem?_eq_some_iff.1 q2).1;simpa using this
          omega
        · rw [e4] at hb
          have:=hlt b' (subs_one.1 hb)
          rw [e1]
          simp only [Value.ownBlock,ne_eq,Option.some.injEq]
          omega
      · cases q
  · rw [show (ins t (Ob.nar e [.row r xs] none) (dropO u (killP (fun d => d.stays true t && d.stays true u) s.o))).lookup t = _ from by rw [lookup_ins, if_pos rfl]] at hh
    cases hh
def CallM (P : Program) (f : FuncId) (ds : List AV) (e : TypeId) (cs : List Cell) : Prop :=
  Callable P f∧∀ (w:World) (vs:List Value),vs.length=ds.length→(∀ (j:Nat) d,ds[j]?=some d→Rep w (fun _=>False) (vs.getD j undef) d) →
    Calls P f vs.toArray w fun q w'=>∃ v,q=.returned v∧Below w.heap.size w w'∧∃ E:Env,E.cur 0=v∧ObOk P (Fr.all w) (fun b=>b<w.heap.size) w' E [(0,.nar e cs none)] 0 (.nar e cs none)
def endM (t:Nat) (e:TypeId) (cs:List Cell):Exit→St→Prop
  | .normal,s|.ret,s=>∃ id,s.s.lookup t=some (.nst id)∧s.o.lookup id=some (.nar e cs none)
  | _,_=>False
end
end Go.Am

