/-
  Plain functions: the words that a changed automaton reads;sizes.
-/
import Derived.Test.YtjimlkpfmbachaaGreatJ22
import Derived.Test.YtjimlkpfmbachaaGreatJ15
import Derived.Test.YtjimlkpfmbachaaGreatJ14
set_option linter.unusedVariables false
set_option linter.unusedSectionVars false
set_option linter.unusedSimpArgs false
namespace Go.Am
open Go.RowKit
section
variable {P:Program} {w0:Fr} {M0:Nat→Prop} {s s':St} {id u t:Nat} {e:TypeId} {xs:List AV} {cs:List Cell} {E:Env} {a:Act} {w:World}
def SV.gone (o:List (Nat×Ob)):SV→Bool
  | .own i=>(o.lookup i).isNone
  | .pel i _ _=>(o.lookup i).isNone
  | .vsl i _ _=>(o.lookup i).isNone
  | .nst i=>(o.lookup i).isNone
  | .nel i _=>(o.lookup i).isNone
  | .pbox i _=>(o.lookup i).isNone
  | .omap i=>(o.lookup i).isNone
  | .dead=>true
  | _=>false
theorem gone_ok {o:List (Nat×Ob)} {v:Value} {d:SV} (h:d.gone o=true):SVok P M0 w E o v d:=by
  have key:∀ {i:Nat} {ob:Ob},(o.lookup i).isNone=true→o.lookup i=some ob→False:=fun h1 h2=>by rw [h2] at h1;cases h1
  cases d with
  | v c d=>cases h
  | own i=>exact fun _ _ q=>(key h q).elim
  | pel i j k=>exact fun _ _ q=>(key h q).elim
  | pbox i j=>exact fun _ _ q=>(key h q).elim
  | omap i=>exact fun _ _ q=>(key h q).elim
  | vsl i j k=>exact fun _ _ q=>(key h q).elim
  | fn f c=>cases h
  | nst i=>exact ⟨fun _ _ _ q=>(key h q).elim,fun _ _ _ q=>(key h q).elim⟩
  | nel i j=>exact fun _ _ _ q=>(key h q).elim
  | dead=>trivial
theorem imp_gone (hn:s'.n=s.n) (ho:s'.o=s.o) (h:∀ t d,s'.s.lookup t=some d→s.s.lookup t=some d∨(t<s.n∧d.gone s.o=true)):Imp P w0 M0 s s':=fun a w ⟨E,hs⟩ =>
  ⟨E,hs.size.trans hn.symm,hs.defers,fun t d ht=>by
    rw [hn,ho]
    rcases h t d ht with h1|⟨h1,h2⟩
    · exact hs.slots t d h1
    · exact ⟨h1,gone_ok h2⟩,by rw [ho];exact hs.wok⟩
theorem SimE.renA (u:Nat) (h:SimE P w0 M0 E s a w) (hnd:Nodup s.s=true) (hM0:∀ b,M0 b→b<w0.w.heap.size) (hl:s.o.lookup id=some (.arr e xs)) (hu:u≠id) :
    ∃ E':Env,E'.cur u=E.cur id∧SimE P w0 M0 E' { n:=s.n,s:=s.s.filter (fun p=>p.2.stays true u&&p.2.stays true id),o:=ins u (.arr e xs) (dropO id (killP (fun d=>d.stays true u&&d.stays true id) s.o)) } a w:=by
  obtain ⟨vals,g1,g2,g3⟩:=h.wok.objs id _ hl
  obtain ⟨E',e1,e2,e3,e5⟩:∃ E':Env,E'.cur u=E.cur id∧(∀ i,i≠u→E'.cur i=E.cur i)∧E'.blk=E.blk∧E'.sub=E.sub :=
    ⟨{ E with cur:=fun i=>if i=u then E.cur id else E.cur i },if_pos rfl,fun i hi=>if_neg hi,rfl,rfl⟩
  have hN:∀ i q,(if i=u then some (some (Ob.arr e xs)) else if i=id then some none else none:Option (Option Ob))=some q→(i=u∧q=some (.arr e xs))∨(i=id∧q=none):=fun i q hq=>by
    by_cases h1:i=u
    · rw [if_pos h1] at hq;injection hq with hq;exact .inl ⟨h1,hq.symm⟩
    · rw [if_neg h1] at hq
      by_cases h2:i=id
      · rw [if_pos h2] at hq;injection hq with hq;exact .inr ⟨h2,hq.symm⟩
      · rw [if_neg h2] at hq;cases hq
  refine ⟨E',e1,?_⟩
  refine SimE.updL (E':=E') (fun d=>d.stays true u&&d.stays true id) (fun i=>if i=u then some (some (.arr e xs)) else if i=id then some none else none) _ (fun i=>?_) (fun d=>rfl) (fun i ob hq hx=>?_) (fun i hq=>?_) h hnd hM0 (fun i hq=>?_) (fun x hx=>by rw [e3]) none ⟨rfl,rfl,rfl,Nat.le_refl _,fun _ _ _=>rfl⟩ (fun _=>Nat.le_refl _) (fun g hg=>by cases hg) (fun i ob b hq hb=>.inl ?_) (fun i ob i' ob' b hq hq' hb hb'=>?_) (fun rep sv lents i ob hq=>?_)
  · rw [lookup_ins]
    by_cases q1:i=u
    · rw [if_pos q1,if_pos q1]
    · rw [if_neg q1, if_neg q1, lookup_dropO]
      by_cases q2:i=id
      · rw [if_pos q2,if_pos q2]
      · rw [if_neg q2,if_neg q2];exact lookup_killP _ i s.o
  · rcases hN i _ hq with ⟨rfl, _⟩ | ⟨_, q⟩
    · obtain ⟨d, q1, q2⟩ := hx
      rw [stays_refs q1] at q2;cases q2
    · cases q
  · rcases hN i _ hq with ⟨_, q⟩ | ⟨rfl, _⟩
    · cases q
    · exact ⟨e2 i (Ne.symm hu),by rw [e3]⟩
  · have hit : i ≠ u := fun q => by rw [if_pos q] at hq; cases hq
    exact ⟨e2 i hit,by rw [e3],by rw [e5]⟩
  · rcases hN i _ hq with ⟨rfl, q⟩ | ⟨_, q⟩
    · injection q with q; subst q
      refine ⟨id,_,by rw [if_neg (Ne.symm hu),if_pos rfl];simp,hl,?_⟩
      simpa only [ownB,e1] using hb
    · cases q
  · rcases hN i _ hq with ⟨rfl, _⟩ | ⟨_, q⟩
    · rcases hN i' _ hq' with ⟨rfl, _⟩ | ⟨_, q⟩
      · rfl
      · cases q
    · cases q
  · rcases hN i _ hq with ⟨rfl, q⟩ | ⟨_, q⟩
    · injection q with q; subst q
      exact ⟨vals,by rw [e1];exact g1,g2,fun j d hd=>⟨(g3 j d hd).1,rep .pl _ _ (g3 j d hd).2 (by simp)⟩⟩
    · cases q
theorem imp_renA (t u:Nat) (hM0:∀ b,M0 b→b<w0.w.heap.size) (hnd:Nodup s.s=true) (ht:s.s.lookup t=some (.own id)) (hl:s.o.lookup id=some (.arr e xs)) (hne:Nat.beq u id=false) :
    Imp P w0 M0 s (({ n:=s.n,s:=s.s.filter (fun p=>p.2.stays true u&&p.2.stays true id),o:=ins u (.arr e xs) (dropO id (killP (fun d=>d.stays true u&&d.stays true id) s.o)) }:St).put t (.own u)):=by
  rintro a w ⟨E,hs⟩
  have h0:=hs.slots t _ ht
  obtain ⟨E',e1,h1⟩:=hs.renA u hnd hM0 hl (fun q=>by rw [q,Nat.beq_refl] at hne;cases hne)
  exact ⟨E',h1.retag h0.1 fun e' xs' hh=>by rw [e1];exact h0.2 e xs hl⟩
theorem SimE.renK (u:Nat) (h:SimE P w0 M0 E s a w) (hnd:Nodup s.s=true) (hM0:∀ b,M0 b→b<w0.w.heap.size) (hl:s.o.lookup id=some (.nar e cs none)) (hu:u≠id) :
    ∃ E':Env,E'.cur u=E.cur id∧E'.blk=E.blk∧SimE P w0 M0 E' { n:=s.n,s:=s.s.filter (fun p=>p.2.stays true u&&p.2.stays true id),o:=ins u (.nar e cs none) (dropO id (killP (fun d=>d.stays true u&&d.stays true id) s.o)) } a w:=by
  obtain ⟨n,vals,g1,g2,g3,g4,g5⟩:=h.wok.objs id _ hl
  obtain ⟨E',e1,e2,e3,e4,e5⟩:∃ E':Env,E'.cur u=E.cur id∧(∀ i,i≠u→E'.cur i=E.cur i)∧E'.blk=E.blk∧E'.sub u=E.sub id∧(∀ i,i≠u→E'.sub i=E.sub i) :=
    ⟨{ E with cur:=fun i=>if i=u then E.cur id else E.cur i,sub:=fun i=>if i=u then E.sub id else E.sub i },if_pos rfl,fun i hi=>if_neg hi,rfl,if_pos rfl,fun i hi=>if_neg hi⟩
  have hN:∀ i q,(if i=u then some (some (Ob.nar e cs none)) else if i=id then some none else none:Option (Option Ob))=some q→(i=u∧q=some (.nar e cs none))∨(i=id∧q=none):=fun i q hq=>by
    by_cases h1:i=u
    · rw [if_pos h1] at hq;injection hq with hq;exact .inl ⟨h1,hq.symm⟩
    · rw [if_neg h1] at hq
      by_cases h2:i=id
      · rw [if_pos h2] at hq;injection hq with hq;exact .inr ⟨h2,hq.symm⟩
      · rw [if_neg h2] at hq;cases hq
  refine ⟨E',e1,e3,?_⟩
  refine SimE.updL (E':=E') (fun d=>d.stays true u&&d.stays true id) (fun i=>if i=u then some (some (.nar e cs none)) else if i=id then some none else none) _ (fun i=>?_) (fun d=>rfl) (fun i ob hq hx=>?_) (fun i hq=>?_) h hnd hM0 (fun i hq=>?_) (fun x hx=>by rw [e3]) none ⟨rfl,rfl,rfl,Nat.le_refl _,fun _ _ _=>rfl⟩ (fun _=>Nat.le_refl _) (fun g hg=>by cases hg) (fun i ob b hq hb=>.inl ?_) (fun i ob i' ob' b hq hq' hb hb'=>?_) (fun rep sv lents i ob hq=>?_)
  · rw [lookup_ins]
    by_cases q1:i=u
    · rw [if_pos q1,if_pos q1]
    · rw [if_neg q1, if_neg q1, lookup_dropO]
      by_cases q2:i=id
      · rw [if_pos q2,if_pos q2]
      · rw [if_neg q2,if_neg q2];exact lookup_killP _ i s.o
  · rcases hN i _ hq with ⟨rfl, _⟩ | ⟨_, q⟩
    · obtain ⟨d, q1, q2⟩ := hx
      rw [stays_refs q1] at q2;cases q2
    · cases q
  · rcases hN i _ hq with ⟨_, q⟩ | ⟨rfl, _⟩
    · cases q
    · exact ⟨e2 i (Ne.symm hu),by rw [e3]⟩
  · have hit : i ≠ u := fun q => by rw [if_pos q] at hq; cases hq
    exact ⟨e2 i hit,by rw [e3],e5 i hit⟩
  · rcases hN i _ hq with ⟨rfl, q⟩ | ⟨_, q⟩
    · injection q with q; subst q
      refine ⟨id,_,by rw [if_neg (Ne.symm hu),if_pos rfl];simp,hl,?_⟩
      simpa only [ownB,e1,e4] using hb
    · cases q
  · rcases hN i _ hq with ⟨rfl, _⟩ | ⟨_, q⟩
    · rcases hN i' _ hq' with ⟨rfl, _⟩ | ⟨_, q⟩
      · rfl
      · cases q
    · cases q
  · rcases hN i _ hq with ⟨rfl, q⟩ | ⟨_, q⟩
    · injection q with q; subst q
      refine ⟨n,vals,by rw [e1];exact g1,g2,by rw [e4];exact g3,?_,by rw [e1,e4];exact g5⟩
      rw [e4]
      exact g4.go (LnTo.none _ _) (fun _ _=>rfl) (fun _ _ hf=>hf) (fun v d hr=>rep .pl v d hr (by simp))
    · cases q
theorem imp_renB (b j u:Nat) {eb:TypeId} {bs bs':List SV} (hM0:∀ b,M0 b→b<w0.w.heap.size) (hnd:Nodup s.s=true) (hb0:s.o.lookup b=some (.box eb bs)) (hj:bs[j]?=some (.nst id)) (hl:s.o.lookup id=some (.nar e cs none)) (hne:Nat.beq u id=false) (hbu:Nat.beq b u=false)
    (hb:(ins u (Ob.nar e cs none) (dropO id (killP (fun d=>d.stays true u&&d.stays true id) s.o))).lookup b=some (.box eb bs')) (hbl:bs'.length=bs.length)
    (hnd':Nodup (s.s.filter (fun p=>p.2.stays true u&&p.2.stays true id))=true) :
    Imp P w0 M0 s (({ n:=s.n,s:=s.s.filter (fun p=>p.2.stays true u&&p.2.stays true id),o:=ins u (.nar e cs none) (dropO id (killP (fun d=>d.stays true u&&d.stays true id) s.o)) }:St).upd false b (.box eb ((keepC b bs').set j (.nst u)))):=by
  rintro a w ⟨E,hs⟩
  obtain ⟨vals0,q1,q2,q3,q4⟩:=hs.wok.objs b _ hb0
  have hv:vals0.getD j undef=E.cur id:=(q4 j _ hj).2.2.1 e cs none hl
  obtain ⟨E',hc,hbk,h1⟩:=hs.renK u hnd hM0 hl (fun q=>by rw [q,Nat.beq_refl] at hne;cases hne)
  have hnu:b≠u:=fun q=>by rw [q,Nat.beq_refl] at hbu;cases hbu
  refine ⟨E',h1.upd false (fun _=>⟨rfl,.inr (.inl ⟨eb,bs',_,hb,rfl⟩)⟩) hnd' hM0 (fun i hi=>⟨rfl,rfl⟩) (.inr rfl) none ⟨rfl,rfl,rfl,Nat.le_refl _,fun _ _ _=>rfl⟩ (fun _=>Nat.le_refl _) (fun g hg=>by cases hg) (fun b' hb'=>.inl ⟨_,hb,hb'⟩) (fun rep sv=>?_)⟩
  obtain ⟨vals,g1,g2,g3,g4⟩:=h1.wok.objs b _ hb
  have hvv:vals=vals0:=by
    rw [hbk,q1] at g1
    simp only [Option.some.injEq,Obj.cells.injEq] at g1
    have:=g1.1
    simpa using this.symm
  subst hvv
  refine ⟨vals,g1,g2,by simpa [keepC] using g3,fun i d hd=>?_⟩
  by_cases hi:j=i
  · subst hi
    have hjl:j<bs'.length:=by rw [hbl];exact (List.getElem?_eq_some_iff.1 hj).1
    rw [List.getElem?_set_self (by simpa [keepC] using hjl)] at hd
    simp only [Option.some.injEq] at hd
    subst hd
    have h0:=q4 j _ hj
    refine ⟨rfl,h0.2.1,fun e1 c1 l1 hh=>by rw [hc];exact hv,fun k1 c1 l1 hh=>?_⟩
    exfalso
    rw [show (ins b (Ob.box eb ((keepC b bs').set j (.nst u))) (killO false b (ins u (Ob.nar e cs none) (dropO id (killP (fun d=>d.stays true u&&d.stays true id) s.o))))).lookup u=some (killOb false b (.nar e cs none)) from by
      rw [lookup_ins,if_neg (Ne.symm hnu),lookup_killO,lookup_ins,if_pos rfl];rfl] at hh
    cases hh
  · rw [List.getElem?_set_ne hi] at hd
    simp only [keepC,List.getElem?_map,Option.map_eq_some_iff] at hd
    obtain ⟨d0,hd0,rfl⟩:=hd
    have:=g4 i d0 hd0
    split
    · exact ⟨this.1,this.2.1,sv _ _ this.2.2 ‹_›⟩
    · exact ⟨rfl,this.2.1,trivial⟩
end
end Go.Am

namespace Go.Am
open Go.RowKit
section
variable {P:Program} {w0:Fr} {M0:Nat→Prop}
theorem nodup_filtP (f:Nat×SV→Bool):∀ l:List (Nat×SV),Nodup l=true→Nodup (l.filter f)=true
  | [],_=>rfl
  | (t, d) :: r, h => by
    simp only [Nodup,Bool.and_eq_true,Bool.not_eq_true'] at h
    rw [List.filter_cons]
    split
    · simp only [Nodup, Bool.and_eq_true, Bool.not_eq_true']
      refine ⟨?_,nodup_filtP f r h.2⟩
      rw [List.any_eq_false] at h ⊢
      exact fun p hp=>h.1 p (List.mem_filter.1 hp).1
    · exact nodup_filtP f r h.2
theorem nodup_put (t:Nat) (d:SV) (l:List (Nat×SV)) (h:Nodup l=true):Nodup ((t,d) :: l.filter fun p=>!(Nat.beq p.1 t))=true:=by
  simp only [Nodup,Bool.and_eq_true,Bool.not_eq_true']
  refine ⟨?_,nodup_filtP _ l h⟩
  rw [List.any_eq_false]
  intro p hp
  have:=(List.mem_filter.1 hp).2
  intro hh
  rw [hh] at this
  cases this
theorem lookup_put (t:Nat) (d:SV) (l:List (Nat×SV)) (u:Nat):((t,d) :: l.filter fun p=>!(Nat.beq p.1 t)).lookup u=if u=t then some d else l.lookup u:=by
  rw [lookup_cons']
  by_cases h:u=t
  · rw [if_pos h,if_pos h]
  · rw [if_neg h, if_neg h, lookup_filt (fun i => !(Nat.beq i t)) u l, if_pos]
    cases hq:Nat.beq u t with
    | false=>rfl
    | true=>exact absurd (Nat.eq_of_beq_eq_true hq) h
def okG (p:SV→Bool) (n t:Nat) (o2:List (Nat×Ob)) (G:List (Nat×SV)):Bool:=G.all fun q=>Nat.beq q.1 t||(p q.2||(Nat.blt q.1 n&&q.2.gone o2))
theorem okG_spec {p:SV→Bool} {n t:Nat} {o2:List (Nat×Ob)} {G:List (Nat×SV)} (h:okG p n t o2 G=true) {u:Nat} {d:SV} (hl:G.lookup u=some d) (hne:u≠t):p d=true∨(u<n∧d.gone o2=true):=by
  have:=List.all_eq_true.1 h _ (lookup_mem hl)
  simp only [Bool.or_eq_true,Bool.and_eq_true] at this
  rcases this with h1|h1|⟨h1,h2⟩
  · exact absurd (Nat.eq_of_beq_eq_true h1) hne
  · exact .inl h1
  · exact .inr ⟨by simpa using h1,h2⟩
theorem aft_ins {G X:List (Nat×SV)} {o:Oper} {t:Nat} {d:SV} (hd:o.dst=some t) (hG:G.lookup t=some d):aftS G X o=ins t d X:=by
  unfold aftS;rw [hd];simp only [hG]
theorem imp_aft {n t:Nat} {d0:SV} {p:SV→Bool} {X G:List (Nat×SV)} {s:St} {o2:List (Nat×Ob)} (hnd:Nodup X=true) (hXG:∀ t d,X.lookup t=some d→G.lookup t=some d) (hok:okG p n t o2 G=true) (hn:s.n=n) (ho:s.o=o2)
    (hs:∀ u,s.s.lookup u=if u=t then some d0 else (X.filter fun q=>p q.2).lookup u):Imp P w0 M0 s ⟨n,ins t d0 X,o2⟩:=by
  refine imp_gone hn.symm ho.symm fun u d hu=>?_
  rw [hs u]
  rw [lookup_ins] at hu
  by_cases q:u=t
  · rw [if_pos q] at hu ⊢;exact .inl hu
  · rw [if_neg q] at hu ⊢
    rcases okG_spec hok (hXG u d hu) q with h|⟨h1,h2⟩
    · exact .inl (lookup_keeps p X u d hnd hu h)
    · exact .inr ⟨by rw [hn];exact h1,by rw [ho];exact h2⟩
variable {o:Oper} {G X:List (Nat×SV)} {o1 o2:List (Nat×Ob)} {T e r:TypeId} {n t u v b k id id2:Nat} {xs ys:List AV} {cs cs2:List Cell} {y:Operand}
theorem stepN_lit0 {parts:Array (Nat×Operand)} (ho:o.op=.buildSlice T 0 parts) (hp:parts.toList=[]) (hd:o.dst=some t) (hn:Nat.blt t n=true) (hnd:Nodup X=true) (hT:P.underlying T=some (.slice e)) (hel:elOk P e k b=true)
    (hXG:∀ t d,X.lookup t=some d→G.lookup t=some d) (hGt:G.lookup t=some (.own t)) (ho2:ins t (.arr e []) (killO true t o1)=o2) (hok:okG (SV.stays true t) n t o2 G=true) (hM0:∀ b,M0 b→b<w0.w.heap.size) :
    ∃ s',Step P w0 M0 o ⟨n,X,o1⟩ s'∧Imp P w0 M0 s' ⟨n,aftS G X o,o2⟩:=by
  refine ⟨_,step_lit0 (s:=⟨n,X,o1⟩) ho hp hd hn hnd hT hel hM0,?_⟩
  rw [aft_ins hd hGt]
  exact imp_aft hnd hXG hok rfl ho2 fun u=>lookup_ins t u _ _
theorem imp_put {n t:Nat} {d0:SV} {Y:List (Nat×SV)} {o1:List (Nat×Ob)}:Imp P w0 M0 ⟨n,ins t d0 Y,o1⟩ ⟨n,(t,d0) :: Y.filter (fun p=>!(Nat.beq p.1 t)),o1⟩ :=
  imp_slots rfl rfl fun u d hu=>by
    show (ins t d0 Y).lookup u=some d
    rw [lookup_ins]
    rw [show (⟨n,(t,d0) :: Y.filter (fun p=>!(Nat.beq p.1 t)),o1⟩:St).s=(t,d0) :: Y.filter (fun p=>!(Nat.beq p.1 t)) from rfl,lookup_put] at hu
    exact hu
theorem lookup_filtS (p : SV → Bool) : ∀ (l : List (Nat × SV)) (u : Nat), Nodup l = true → (l.filter fun q => p q.2).lookup u = (l.lookup u).filter p
  | [],u,_=>rfl
  | (w, d) :: l, u, h => by
    have h':=h
    simp only [Nodup,Bool.and_eq_true,Bool.not_eq_true'] at h'
    have ih:=lookup_filtS p l u h'.2
    rw [List.filter_cons,lookup_cons']
    by_cases q:u=w
    · rw [if_pos q]
      by_cases hp:p d=true
      · rw [if_pos hp,lookup_cons',if_pos q];simp [Option.filter,hp]
      · rw [if_neg hp, ih]
        have:l.lookup u=none:=by
          cases hl:l.lookup u with
          | none=>rfl
          | some z =>
            have h1:=List.any_eq_false.1 h'.1 _ (lookup_mem hl)
            rw [q] at h1
            simp at h1
        rw [this];simp [Option.filter,hp]
    · rw [if_neg q]
      split
      · rw [lookup_cons',if_neg q];exact ih
      · exact ih
theorem stepN_append (ho:o.op=.call { callee:=.builtin .append,args:=#[.tmp u,y],argTypes:=#[T,T] }) (hd:o.dst=some t) (hn:Nat.blt t n=true) (hnd:Nodup X=true) (hT:P.underlying T=some (.slice e)) (hel:elOk P e k b=true)
    (hu:X.lookup u=some (.own id)) (hl:o1.lookup id=some (.arr e xs)) (hy:Src P w0 M0 ⟨n,X,o1⟩ y k ys) (hb:(xs.length+ys.length)*b≤140737488355328) (hm:xs.length+ys.length≤4611686018427387904) (hne:Nat.beq t id=false)
    (hXG:∀ t d,X.lookup t=some d→G.lookup t=some d) (hGt:G.lookup t=some (.own t))
    (ho2:ins t (.arr e (xs++ys)) (dropO id (killP (fun d=>d.stays true t&&d.stays true id) (ins id (.arr e (xs++ys)) (killO true id o1))))=o2) (hok:okG (fun d=>d.stays true id&&(d.stays true t&&d.stays true id)) n t o2 G=true) (hM0:∀ b,M0 b→b<w0.w.heap.size) :
    ∃ s',Step P w0 M0 o ⟨n,X,o1⟩ s'∧Imp P w0 M0 s' ⟨n,aftS G X o,o2⟩:=by
  have hnf:=nodup_filtP (fun p=>p.2.stays true id) X hnd
  have hnq:=nodup_put t (.own id) _ hnf
  refine ⟨_,step_append (s:=⟨n,X,o1⟩) ho hd hn hnd hT hel (by show X.lookup u=_;exact hu) hl hM0 hy hb hm,?_⟩
  rw [aft_ins hd hGt]
  refine imp_put.trans ((imp_renA (id:=id) t t hM0 hnq (by rw [lookup_put,if_pos rfl]) (by show (ins id _ _).lookup id=_;rw [lookup_ins,if_pos rfl]) hne).trans ?_)
  refine imp_aft (p:=fun d=>d.stays true id&&(d.stays true t&&d.stays true id)) hnd hXG hok rfl ho2 fun x=>?_
  show (ins t (SV.own t) (((t,SV.own id) :: List.filter (fun p=>!(Nat.beq p.1 t)) (X.filter fun p=>p.2.stays true id)).filter fun p=>p.2.stays true t&&p.2.stays true id)).lookup x=_
  rw [lookup_ins]
  by_cases q:x=t
  · rw [if_pos q,if_pos q]
  · rw [if_neg q, if_neg q, lookup_filtS (fun d => d.stays true t && d.stays true id) _ x hnq, lookup_put, if_neg q, lookup_filtS (fun d => d.stays true id) _ x hnd, lookup_filtS (fun d => d.stays true id && (d.stays true t && d.stays true id)) _ x hnd]
    cases X.lookup x with
    | none=>rfl
    | some d=>cases h1:d.stays true id<;>cases h2:d.stays true t<;>simp [Option.filter,h1,h2]
theorem stepN_lit (ho:o.op=.buildSlice T 1 #[(0,.tmp v)]) (hd:o.dst=some t) (hn:Nat.blt t n=true) (hpt:Nat.blt t 1000000=true) (hne:Nat.beq t u=false) (hnd:Nodup X=true) (hT:P.underlying T=some (.slice e)) (hel:elOk P e 1 b=true) (hv:X.lookup v=some (.own u)) (hl:o1.lookup u=some (.arr r xs))
    (hXG:∀ t d,X.lookup t=some d→G.lookup t=some d) (hGt:G.lookup t=some (.nst t))
    (ho2:ins t (.nar e [.row r xs] none) (dropO u (killP (fun d=>d.stays true t&&d.stays true u) o1))=o2) (hok:okG (fun d=>d.stays true t&&d.stays true u) n t o2 G=true) (hM0:∀ b,M0 b→b<w0.w.heap.size) :
    ∃ s',Step P w0 M0 o ⟨n,X,o1⟩ s'∧Imp P w0 M0 s' ⟨n,aftS G X o,o2⟩:=by
  refine ⟨_,step_litN (s:=⟨n,X,o1⟩) ho hd hn hpt hne hnd hT hel (by show X.lookup v=_;exact hv) hl hM0,?_⟩
  rw [aft_ins hd hGt]
  exact imp_aft (p:=fun d=>d.stays true t&&d.stays true u) hnd hXG hok rfl ho2 fun x=>lookup_ins t x _ _
theorem stepN_app (ho:o.op=.call { callee:=.builtin .append,args:=#[.tmp u,.tmp v],argTypes:=#[T,T] }) (hd:o.dst=some t) (hn:Nat.blt t n=true) (hne:Nat.beq id id2=false) (hne2:Nat.beq t id=false) (hnd:Nodup X=true) (hT:P.underlying T=some (.slice e)) (hel:elOk P e 1 b=true)
    (hu:X.lookup u=some (.nst id)) (hl:o1.lookup id=some (.nar e cs none)) (hv:X.lookup v=some (.nst id2)) (hl2:o1.lookup id2=some (.nar e cs2 none)) (h2:0<cs2.length) (hb:(cs.length+cs2.length)*b≤140737488355328) (hm:cs.length+cs2.length≤4611686018427387904)
    (hXG:∀ t d,X.lookup t=some d→G.lookup t=some d) (hGt:G.lookup t=some (.nst t))
    (ho2:ins t (.nar e (cs++cs2) none) (dropO id (killP (fun d=>d.stays true t&&d.stays true id) (ins id (.nar e (cs++cs2) none) (dropO id2 (killP (fun d=>d.stays true id&&d.stays true id2) o1)))))=o2)
    (hok:okG (fun d=>(d.stays true id&&d.stays true id2)&&(d.stays true t&&d.stays true id)) n t o2 G=true) (hM0:∀ b,M0 b→b<w0.w.heap.size) :
    ∃ s',Step P w0 M0 o ⟨n,X,o1⟩ s'∧Imp P w0 M0 s' ⟨n,aftS G X o,o2⟩:=by
  have hnf:=nodup_filtP (fun p=>p.2.stays true id&&p.2.stays true id2) X hnd
  have hnq:=nodup_put t (.nst id) _ hnf
  refine ⟨_,step_appN (s:=⟨n,X,o1⟩) ho hd hn hne hnd hT hel (by show X.lookup u=_;exact hu) hl (by show X.lookup v=_;exact hv) hl2 h2 hb hm hM0,?_⟩
  rw [aft_ins hd hGt]
  refine imp_put.trans ((imp_renN (id:=id) t t hM0 hnq (by rw [lookup_put,if_pos rfl]) (by show (ins id _ _).lookup id=_;rw [lookup_ins,if_pos rfl]) hne2).trans ?_)
  refine imp_aft (p:=fun d=>(d.stays true id&&d.stays true id2)&&(d.stays true t&&d.stays true id)) hnd hXG hok rfl ho2 fun x=>?_
  show (ins t (SV.nst t) (((t,SV.nst id) :: List.filter (fun p=>!(Nat.beq p.1 t)) (X.filter fun p=>p.2.stays true id&&p.2.stays true id2)).filter fun p=>p.2.stays true t&&p.2.stays true id)).lookup x=_
  rw [lookup_ins]
  by_cases q:x=t
  · rw [if_pos q,if_pos q]
  · rw [if_neg q, if_neg q, lookup_filtS (fun d => d.stays true t && d.stays true id) _ x hnq, lookup_put, if_neg q, lookup_filtS (fun d => d.stays true id && d.stays true id2) _ x hnd, lookup_filtS (fun d => (d.stays true id && d.stays true id2) && (d.stays true t && d.stays true id)) _ x hnd]
    cases X.lookup x with
    | none=>rfl
    | some d=>cases h1:d.stays true id<;>cases h2:d.stays true t<;>cases h3:d.stays true id2<;>simp [Option.filter,h1,h2,h3]
end
end Go.Am

namespace Go.Am
open Go.RowKit
section
variable {P:Program} {w0:Fr} {M0:Nat→Prop} {s:St} {o:Oper} {id u j k:Nat} {e r T:TypeId} {cs:List Cell} {xs:List AV} {x y:Operand} {ln:Option (Nat×Lend)}
theorem imp_flatB (b j:Nat) {eb:TypeId} {bs bs':List SV} (hM0:∀ b,M0 b→b<w0.w.heap.size) (hnd:Nodup s.s=true) (hb0:s.o.lookup b=some (.box eb bs)) (hj:bs[j]?=some (.nst id)) (hl:s.o.lookup id=some (.nar e cs none)) (hk:szOf P e=some 1)
    (hb:(s.upd true id (.arr e (cs.map Cell.av))).o.lookup b=some (.box eb bs')) (hbl:bs'.length=bs.length)
    (hnd':Nodup (s.upd true id (.arr e (cs.map Cell.av))).s=true):Imp P w0 M0 s ((s.upd true id (.arr e (cs.map Cell.av))).upd false b (.box eb ((keepC b bs').set j (.own id)))):=by
  rintro a w ⟨E,hs⟩
  have h1:=hs.flatten hnd hM0 hl (cellsOf_of hk)
  have hbi:b≠id:=fun q=>by rw [q,hl] at hb0;cases hb0
  obtain ⟨vals0,q1,q2,q3,q4⟩:=hs.wok.objs b _ hb0
  have hv:vals0.getD j undef=E.cur id:=(q4 j _ hj).2.2.1 e cs none hl
  refine ⟨E,h1.upd false (fun _=>⟨rfl,.inr (.inl ⟨eb,bs',_,hb,rfl⟩)⟩) hnd' hM0 (fun i hi=>⟨rfl,rfl⟩) (.inr rfl) none ⟨rfl,rfl,rfl,Nat.le_refl _,fun _ _ _=>rfl⟩ (fun _=>Nat.le_refl _) (fun g hg=>by cases hg) (fun b' hb'=>.inl ⟨_,hb,hb'⟩) (fun rep sv=>?_)⟩
  obtain ⟨vals,g1,g2,g3,g4⟩:=h1.wok.objs b _ hb
  have hvv:vals=vals0:=by
    rw [q1] at g1
    simp only [Option.some.injEq,Obj.cells.injEq] at g1
    have:=g1.1
    simpa using this.symm
  subst hvv
  refine ⟨vals,g1,g2,by simpa [keepC] using g3,fun i d hd=>?_⟩
  by_cases hi:j=i
  · subst hi
    have hjl:j<bs'.length:=by rw [hbl];exact (List.getElem?_eq_some_iff.1 hj).1
    rw [List.getElem?_set_self (by simpa [keepC] using hjl)] at hd
    simp only [Option.some.injEq] at hd
    subst hd
    exact ⟨rfl,(q4 j _ hj).2.1,fun e1 c1 hh=>hv⟩
  · rw [List.getElem?_set_ne hi] at hd
    simp only [keepC,List.getElem?_map,Option.map_eq_some_iff] at hd
    obtain ⟨d0,hd0,rfl⟩:=hd
    have:=g4 i d0 hd0
    split
    · exact ⟨this.1,this.2.1,sv _ _ this.2.2 ‹_›⟩
    · exact ⟨rfl,this.2.1,trivial⟩
theorem nar_eta {E:Env} {w:World} {o':List (Nat×Ob)} (h:ObOk P w0 M0 w E o' u (.arr r xs)):(E.cur u).cells=#[E.cur u]∧(E.cur u).oneCell'=true:=by
  obtain ⟨vals',h1,h2,h3⟩:=h
  rcases h1.1.2 with ⟨q,_⟩|⟨g,cap,cur,q,_⟩<;>rw [q]<;>exact ⟨rfl,rfl⟩
theorem step_store_nel (ho : o.op = .store T x y) (hd : o.dst = none) (hnd : Nodup s.s = true) (hk : szOf P T = some 1) (hke : szOf P e = some 1) (hx : s.ev x = some (.nel id j)) (hl : s.o.lookup id = some (.nar e cs ln)) (hln : ∀ i, ln.map (·.1) = some i → i = j)
    (hy:s.ev y=some (.own u)) (hlu:s.o.lookup u=some (.arr r xs)) (hM0:∀ b,M0 b→b<w0.w.heap.size):Step P w0 M0 o s (s.upd false id (.nar e cs (some (j,.arr u)))):=by
  rintro a w Q ⟨E,hs⟩
  have hui:u≠id:=fun q=>by rw [q,hl] at hlu;cases hlu
  obtain ⟨hj,g,hg,hxv⟩:=hs.ev hx e cs ln hl
  have hyv:a.eval y=E.cur u:=hs.ev hy r xs hlu
  obtain ⟨hcl,hone⟩:=nar_eta (hs.wok.objs u _ hlu)
  obtain ⟨n,vals,⟨⟨hvl,hform⟩,hfree⟩,g2,g3,g4,g5⟩:=hs.wok.objs id _ hl
  have hce:=cellsOf_of hke
  rw [hce,Nat.mul_one] at hvl g2
  have hns:∀ i,i≠j→ln.map (·.1)≠some i:=fun i hi q=>hi (hln i q)
  rcases hform with ⟨hv,hn0⟩|⟨g',cap,cur,hv,hgb,hh,hnc,hcm,hcs,htake⟩
  · omega
  · have hgg : g' = g := by rw [hv] at hg; simpa [Value.ownBlock] using hg
    subst hgg
    rw [hce,Nat.mul_one] at hcs htake
    have hjc:j+1≤cur.size:=by omega
    have hrun:=run_storeVar (P:=P) (w:=w) (v:=E.cur u) (p:=j) hk (by rw [hcl];rfl) hh hjc (fun z hz=>by rw [hcl] at hz;have hz:z∈[E.cur u]:=hz;rw [List.mem_singleton.1 hz];exact hone)
    rw [hcl] at hrun
    unfold Oper.wp
    have hexec:(execOp a.eval o).run P w=.ok .skip (w.setRow g' (spl cur.toList j [E.cur u]).toArray):=by
      simp [execOp,ho,hxv,hyv,Instr.storeAt,Instr.sureAddr,hrun]
    rw [hexec]
    simp only [Oper.upon,hd,Act.put]
    obtain ⟨E',e1,e2,e3,e4⟩:∃ E':Env,E'.cur=E.cur∧E'.blk=E.blk∧(∀ i,E'.sub id i=if i=j then E.cur u else E.sub id i)∧(∀ i,i≠id→E'.sub i=E.sub i) :=
      ⟨{ E with sub:=fun i k=>if i=id then (if k=j then E.cur u else E.sub id k) else E.sub i k },rfl,rfl,fun i=>if_pos rfl,fun i hi=>funext fun k=>if_neg hi⟩
    have hsubs:∀ b,subs (E'.sub id) b cs (some (j,.arr u))→subs (E.sub id) b cs ln:=fun b ⟨i,c,q1,q2,q3⟩=>by
      have hij:i≠j:=fun q=>q2 (by rw [q];rfl)
      rw [e3,if_neg hij] at q3
      exact ⟨i,c,q1,hns i hij,q3⟩
    refine ⟨E',SimE.updP (E':=E') (SV.stays false id) (fun d=>rfl) (fun _=>⟨congrFun e1 _,congrFun e2 _,.inr (.inr (.inr (.inl ⟨e,cs,ln,cs,_,hl,rfl,Nat.le_refl _⟩)))⟩) hs hnd hM0 (fun i hi=>⟨congrFun e1 _,congrFun e2 _,e4 i hi⟩) (.inr (congrFun e2 _)) (some g') setRow_grown (fun _=>Nat.le_refl _)
      (fun g hg'=>⟨_,hl,by simp only [Option.some.injEq] at hg';subst hg';exact .inl hg⟩) (fun b hb=>.inl ⟨_,hl,?_⟩) (fun rep sv=>?_)⟩
    · rcases hb with hb | hb
      · rw [e1] at hb;exact .inl hb
      · exact .inr (hsubs b hb)
    · have hnj : n ≤ cur.size := by omega
      have hspl:j+[E.cur u].length≤vals.length:=by simp;omega
      have hspc:j+[E.cur u].length≤cur.toList.length:=by simp;omega
      refine ⟨n,spl vals j [E.cur u],⟨⟨by rw [spl_length hspl,hvl,hce,Nat.mul_one],.inr ⟨g',cap,(spl cur.toList j [E.cur u]).toArray,by rw [e1];exact hv,hgb,setRow_heap w _ _ _ e _ hh,hnc,hcm,?_,?_⟩⟩,fun b hb=>?_⟩,by rw [hce,Nat.mul_one];exact g2,fun i hi=>?_,⟨fun i c hc hn=>?_,fun i1 i2 c1 c2 b p1 p2 p3 p4 p5 p6=>?_,fun i u' hu'=>?_,fun i u' hu'=>by cases hu'⟩,fun b hb=>?_⟩
      · rw [List.size_toArray,spl_length hspc];simpa [hce] using hcs
      · rw [hce, Nat.mul_one]
        have ht:cur.toList.take n=vals:=htake
        apply List.ext_getElem?
        intro i
        rw [List.getElem?_take,spl_get hspc,spl_get hspl]
        by_cases hi:i<n
        · rw [if_pos hi]
          split
          · rfl
          · rw [← ht,List.getElem?_take,if_pos hi]
        · rw [if_neg hi,if_neg (by simp;omega),List.getElem?_eq_none (by omega)]
      · rw [e1] at hb;exact hfree b hb
      · rw [List.getD_eq_getElem?_getD, spl_get hspl, e3]
        by_cases q:i=j
        · subst q
          rw [if_pos ⟨Nat.le_refl _,by simp⟩,if_pos rfl,Nat.sub_self];rfl
        · rw [if_neg (by simp only [List.length_singleton]; omega), if_neg q, ← List.getD_eq_getElem?_getD]
          exact g3 i hi
      · have hij : i ≠ j := fun q => hn (by rw [q]; rfl)
        rw [e3,if_neg hij]
        have hsb:∀ b,subB (E.sub id i) b c→b≠g':=fun b hb q=>g5 b ⟨i,c,hc,hns i hij,hb⟩ (by rw [q];exact hg)
        exact (g4.ok i c hc (hns i hij)).go (fun b hb=>setRow_other w g' b _ (hsb b hb)) (fun _ _ hf=>hf) (fun v d hr=>rep .pl v d hr (by simp))
      · have h1 : i1 ≠ j := fun q => p3 (by rw [q]; rfl)
        have h2:i2≠j:=fun q=>p4 (by rw [q];rfl)
        rw [e3,if_neg h1] at p5
        rw [e3,if_neg h2] at p6
        exact g4.apart i1 i2 c1 c2 b p1 p2 (hns i1 h1) (hns i2 h2) p5 p6
      · cases hu'
        rw [e3,if_pos rfl,e1]
      · rw [e1];exact g5 b (hsubs b hb)
end
end Go.Am

namespace Go.Am
open Go.RowKit
section
variable {P:Program} {w0:Fr} {M0:Nat→Prop} {ops:Array Oper}
def chainOk (ops:Array Oper) (E:Nat→Nat) (m k:Nat):Bool:=Nat.ble k ops.size&&(List.range m).all fun q=>Nat.blt (E q) k&&(List.range q).all fun p=>(ancs ops ops.size (E q)).contains (E p)&&!(Nat.beq (E p) (E q))
theorem code_drawM {id:Nat} {n:Nat} {s0:List (Nat×SV)} (m:Nat) (E:Nat→Nat) (O:Nat→List (Nat×Ob)) (k:Nat) (G:List (Nat×SV)) {Q':Exit→St→Prop} (hm:P.follows .mixedOrders=true) (hok:drawOk ops=true) (htl:phaseOk ops k=true) (hmid:midOkG ops n k (effN E m)=true) (hc:chainOk ops E m k=true)
    (hG:∀ t d,(G.filter fun p=>keepL ops k #[] p.1).lookup t=some d→s0.lookup t=some d) (hnd:Nodup G=true)
    (hset:∀ i t,i<k→(ops[i]?).bind (·.dst)=some t→∃ d,G.lookup t=some d)
    (hP:∀ p i o t d,p≤m→i<k→effN E m i=false→ops[i]?=some o→o.dst=some t→G.lookup t=some d→(∀ q,q<p→(ancs ops ops.size (E q)).contains i=false)→(p<m→(ancs ops ops.size i).contains (E p)=false)→Pure P w0 M0 o (restr ops o (St.ev ⟨n,G,O p⟩)) (O p) d)
    (hE:∀ p o X,p<m→ops[E p]?=some o→Nodup X=true→(∀ t d,X.lookup t=some d→G.lookup t=some d)→(∀ t,t∈looks ops o→X.lookup t=G.lookup t)→∃ s',Step P w0 M0 o ⟨n,X,O p⟩ s'∧Imp P w0 M0 s' ⟨n,aftS G X o,O (p+1)⟩)
    (hend:EndL P w0 M0 ops (fun s=>∃ s',Imp P w0 M0 s s'∧Q' .normal s') k ⟨n,G,O m⟩):CodeOk P w0 M0 (.region id ops true) ⟨n,s0,O 0⟩ Q':=by
  unfold chainOk at hc
  rw [Bool.and_eq_true,List.all_eq_true] at hc
  have h1:∀ q,q<m→E q<k∧∀ p,p<q→(ancs ops ops.size (E q)).contains (E p)=true∧E p≠E q:=fun q hq=>by
    have:=hc.2 q (List.mem_range.2 hq)
    rw [Bool.and_eq_true,List.all_eq_true] at this
    refine ⟨by simpa using this.1,fun p hp=>?_⟩
    have h2:=this.2 p (List.mem_range.2 hp)
    rw [Bool.and_eq_true] at h2
    exact ⟨h2.1,fun e=>by rw [e,Nat.beq_refl] at h2;exact absurd h2.2 (by decide)⟩
  exact code_drawN m E O k G hm hok htl hmid hc.1 (fun p hp=>(h1 p hp).1) (fun p q hpq hq=>((h1 q hq).2 p hpq).1) (fun p q hpq hq=>((h1 q hq).2 p hpq).2) hG hnd hset hP hE hend
theorem view_sl {X:List (Nat×SV)} {o:List (Nat×Ob)} {n t:Nat} {c:Cls} {xs:List AV} (h:X.lookup t=some (.v c (.sl xs))):viewAt (⟨n,X,o⟩:St).ev (⟨n,X,o⟩:St).o (.tmp t)=some (c,.sl xs):=by
  simp only [viewAt,St.ev,h];rfl
end
end Go.Am

namespace Go.Am
open Go.RowKit
section
variable {P:Program} {w0:Fr} {M0:Nat→Prop}
theorem nrm_cells (x:AV):(AV.cells x.nrm=AV.cells x)∨(AV.cells x=[x]∧AV.cells x.nrm=[x.nrm]):=by
  cases x with
  | agg cs=>exact .inl rfl
  | sc v =>
    refine .inr ⟨rfl,?_⟩
    unfold AV.nrm
    split<;>rfl
  | sl xs=>exact .inr ⟨rfl,rfl⟩
  | tup vs=>exact .inr ⟨rfl,rfl⟩
  | pc cs off=>exact .inr ⟨rfl,rfl⟩
  | clo f c=>exact .inr ⟨rfl,rfl⟩
  | mp k v=>exact .inr ⟨rfl,rfl⟩
theorem nrm_clen (x:AV):(AV.cells x.nrm).length=(AV.cells x).length:=by
  rcases nrm_cells x with h|⟨h1,h2⟩
  · rw [h]
  · rw [h1,h2];rfl
theorem flat_nrm : ∀ (xs : List AV) (j : Nat) (d : AV), (flat (xs.map AV.nrm))[j]? = some d → ∃ d0, (flat xs)[j]? = some d0 ∧ (d = d0 ∨ d = d0.nrm)
  | [],j,d,h=>by simp [flat] at h
  | x :: xs, j, d, h => by
    have ih:=flat_nrm xs
    unfold flat at h ih ⊢
    rw [List.map_cons,List.flatMap_cons] at h
    rw [List.flatMap_cons]
    have hl:=nrm_clen x
    rcases Nat.lt_or_ge j (AV.cells x).length with q|q
    · rw [List.getElem?_append_left (by rw [hl]; exact q)] at h
      rw [List.getElem?_append_left q]
      rcases nrm_cells x with e|⟨e1,e2⟩
      · rw [e] at h;exact ⟨d,h,.inl rfl⟩
      · rw [e2] at h
        rw [e1] at q ⊢
        obtain rfl:j=0:=by simp at q;exact q
        simp only [List.getElem?_cons_zero,Option.some.injEq] at h
        exact ⟨x,rfl,.inr h.symm⟩
    · rw [List.getElem?_append_right (by rw [hl]; exact q), hl] at h
      rw [List.getElem?_append_right q]
      exact ih _ d h
theorem rep_norms {w:World} {M:Nat→Prop} {v:Value} {xs:List AV} (h:Rep w M v (.sl xs)):Rep w M v (.sl (xs.map AV.nrm)):=by
  cases h with
  | sl a n cap _ k cv hn hc hk hb hl hr =>
    refine .sl a n cap _ k cv (by rw [List.length_map];exact hn) hc (fun x hx=>?_) hb (fun j d hd=>?_) (fun j d hd=>?_)
    · obtain ⟨y, hy, rfl⟩ := List.mem_map.1 hx
      rw [nrm_clen];exact hk y hy
    · obtain ⟨d0, h0, h1⟩ := flat_nrm xs j d hd
      rcases h1 with rfl|rfl
      · exact hl j _ h0
      · exact nrm_leaf (hl j d0 h0)
    · obtain ⟨d0, h0, h1⟩ := flat_nrm xs j d hd
      rcases h1 with rfl|rfl
      · exact hr j _ h0
      · exact rep_nrm (hr j d0 h0)
theorem pure_norms {o:Oper} {ρ:Operand→Option SV} {ob:List (Nat×Ob)} {c:Cls} {xs ys:List AV} (h:Pure P w0 M0 o ρ ob (.v c (.sl xs))) (e:xs.map AV.nrm=ys):Pure P w0 M0 o ρ ob (.v c (.sl ys)):=by
  subst e
  intro E w ev hw hx
  have:=h E w ev hw hx
  unfold Yield at this ⊢
  generalize (execOp ev o).run P w=r at *
  match r,this with
  | .ok (.value v) w',hy=>exact ⟨hy.1,rep_norms hy.2⟩
  | .ok (.enter f args) w',hy=>exact ⟨hy.1,hy.2.mono fun e w'' ⟨v,he,hb,hv⟩=>⟨v,he,hb,rep_norms hv⟩⟩
def okF (p:SV→Bool) (n t:Nat) (o2:List (Nat×Ob)) (G:List (Nat×SV)):Bool:=G.all fun q=>Nat.beq q.1 t||(p q.2||(match q.2 with|.own i=>(o2.lookup i).isNone&&Nat.blt q.1 n|_=>false))
theorem stepN_appendF {o:Oper} {G X:List (Nat×SV)} {o1:List (Nat×Ob)} {T e:TypeId} {n t u b k id:Nat} {xs ys:List AV} {y:Operand} (ho:o.op=.call { callee:=.builtin .append,args:=#[.tmp u,y],argTypes:=#[T,T] }) (hd:o.dst=some t) (hn:Nat.blt t n=true) (hnd:Nodup X=true) (hT:P.underlying T=some (.slice e)) (hel:elOk P e k b=true)
    (hu:X.lookup u=some (.own id)) (hl:o1.lookup id=some (.arr e xs)) (hy:Src P w0 M0 ⟨n,X,o1⟩ y k ys) (hb:(xs.length+ys.length)*b≤140737488355328) (hm:xs.length+ys.length≤4611686018427387904)
    (hXG:∀ t d,X.lookup t=some d→G.lookup t=some d) (hGt:G.lookup t=some (.v .pl (.sl (xs++ys))))
    (hok:okF (SV.stays true id) n t [] G=true) (hM0:∀ b,M0 b→b<w0.w.heap.size) :
    ∃ s',Step P w0 M0 o ⟨n,X,o1⟩ s'∧Imp P w0 M0 s' ⟨n,aftS G X o,[]⟩:=by
  refine ⟨_,step_append (s:=⟨n,X,o1⟩) ho hd hn hnd hT hel (by show X.lookup u=_;exact hu) hl hM0 hy hb hm,?_⟩
  rw [aft_ins hd hGt]
  refine imp_frzG hM0 (fun t' d ht'=>?_) (fun i ob h=>by simp at h)
  rw [lookup_ins] at ht'
  by_cases q:t'=t
  · rw [if_pos q] at ht'
    simp only [Option.some.injEq] at ht'
    refine .inr (.inl ⟨.own id,.sl (xs++ys),?_,?_,ht'.symm⟩)
    · show (ins t (SV.own id) _).lookup t' = _
      rw [lookup_ins,if_pos q]
    · show frz (ins id _ _) [] (.own id) = _
      simp only [frz,frz1,lookup_ins,if_pos,List.lookup_nil]
  · rw [if_neg q] at ht'
    have hg:=List.all_eq_true.1 hok _ (lookup_mem (hXG t' d ht'))
    simp only [Bool.or_eq_true] at hg
    rcases hg with h1|h1|h1
    · exact absurd (Nat.eq_of_beq_eq_true h1) q
    · refine .inl ?_
      show (ins t (SV.own id) _).lookup t'=_
      rw [lookup_ins,if_neg q]
      exact lookup_keeps (SV.stays true id) X t' d hnd ht' h1
    · cases d <;> first | (cases h1; done) | skip
      rename_i i
      simp only [Bool.and_eq_true] at h1
      exact .inr (.inr ⟨i,rfl,rfl,show t'<n by simpa using h1.2⟩)
end
end Go.Am

namespace Go.Wd
open Go.Am Go.Wc
def wl (w:List Int) (z s:Int):List (List Int):=[w,w++[z],[s],[-1],[]]
theorem wl_norm {w:List Int} {z s:Int}:([ints w,.sl (w.map int++[int z]),.sl [int s],.sl [int (-1)],.sc (.slice none 0 0)]:List AV).map AV.nrm=(wl w z s).map ints:=by
  rw [show w.map int++[int z]=(w++[z]).map int from by rw [List.map_append];rfl]
  rfl
theorem wl_len {w:List Int} {z s:Int} (h:w.length≤10) {i:Nat}:((wl w z s).getD i default).length≤11:=by
  rcases Nat.lt_or_ge i 5 with q|q
  · rcases (by omega : i = 0 ∨ i = 1 ∨ i = 2 ∨ i = 3 ∨ i = 4) with rfl | rfl | rfl | rfl | rfl
    · show w.length≤11;omega
    · show (w++[z]).length≤11;rw [List.length_append];simp only [List.length_cons,List.length_nil];omega
    · show 1≤11;omega
    · show 1≤11;omega
    · show 0≤11;omega
  · rw [List.getD_eq_getElem?_getD, List.getElem?_eq_none (show (wl w z s).length ≤ i from q)]
    exact Nat.zero_le _
theorem minZ_ok (d:Dfa):okD (minZ d)∨minZ d=zeroD:=by
  by_cases h:validD d=true
  · rw [minZ_t h];exact .inl (minP_ok (valid_ok h)).1
  · exact .inr (minZ_f (by simpa using h))
theorem notZ_ok (d:Dfa):okD (notZ d)∨notZ d=zeroD:=by
  by_cases h:validD d=true
  · rw [notZ_t h,minZ_t (ok_valid (flip_ok (valid_ok h)))];exact .inl (minP_ok (flip_ok (valid_ok h))).1
  · exact .inr (notZ_f (by simpa using h))
end Go.Wd

