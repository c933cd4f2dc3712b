/-
  What holds own parts,under another number.
-/
import Derived.Test.YtgdehkimfmfofaaGreatJ22
import Derived.Test.YtgdehkimfmfofaaGreatJ18
import Derived.Test.YtgdehkimfmfofaaGreatJ21
set_option linter.unusedVariables false
set_option linter.unusedSectionVars false
set_option linter.unusedSimpArgs false
namespace Go.Am
open Go.RowKit
section
variable {P:Program} {w0:Fr} {M0:Nat→Prop} {s:St} {t u j:Nat} {e r:TypeId} {cs cs':List Cell} {xs:List AV} {y:Code} {Q:Exit→St→Prop}
theorem imp_lend (id u:Nat) (hM0:∀ b,M0 b→b<w0.w.heap.size) (hnd:Nodup s.s=true) (hne:Nat.beq u id=false) (hl:s.o.lookup id=some (.nar e cs none)) (hc:cs[j]?=some (.row r xs)) :
    Imp P w0 M0 s { n:=s.n,s:=s.s.filter (fun p=>p.2.stays true u),o:=ins u (.arr r xs) (ins id (.nar e cs (some (j,.arr u))) (killO true u s.o)) }:=fun a w ⟨E,hs⟩=>by
  obtain ⟨E',_,h⟩:=hs.borrow (u:=u) hnd hM0 hl hc (fun q=>by rw [q,Nat.beq_refl] at hne;cases hne)
  exact ⟨E',h⟩
theorem code_lend (id u:Nat) (hM0:∀ b,M0 b→b<w0.w.heap.size) (hnd:Nodup s.s=true) (hne:Nat.beq u id=false) (hl:s.o.lookup id=some (.nar e cs none)) (hc:cs[j]?=some (.row r xs))
    (h:CodeOk P w0 M0 y { n:=s.n,s:=s.s.filter (fun p=>p.2.stays true u),o:=ins u (.arr r xs) (ins id (.nar e cs (some (j,.arr u))) (killO true u s.o)) } Q):CodeOk P w0 M0 y s Q:=CodeOk.imp (imp_lend id u hM0 hnd hne hl hc) h
theorem endM_ret {id:Nat} (h:s.s.lookup t=some (.nst id)) (h':s.o.lookup id=some (.nar e cs' none)) (q:cs'=cs):endM t e cs .ret s:=⟨id,h,by rw [h',q]⟩
end
end Go.Am

namespace Go.We
open Go.Am
theorem repl_get {α:Type} {n i:Nat} {x:α} (h:i<n):(List.replicate n x)[i]?=some x:=by rw [List.getElem?_replicate,if_pos h]
def rowsC (T:TypeId) (m:List (List Bool)):List Cell:=m.map fun r=>Cell.row T (r.map bool)
theorem rowsC_len (T:TypeId) (m:List (List Bool)):(rowsC T m).length=m.length:=by unfold rowsC;rw [List.length_map]
def rowF (N:Nat) (g:Nat→Bool):List Bool:=(List.range N).map g
def matF (N:Nat) (f:Nat→Nat→Bool):List (List Bool):=(List.range N).map fun i=>rowF N (f i)
abbrev boolsR (l:List Bool):AV:=.sl (l.map bool)
abbrev matA (m:List (List Bool)):AV:=.sl (m.map boolsR)
theorem rowF_len (N:Nat) (g:Nat→Bool):(rowF N g).length=N:=by unfold rowF;simp
theorem matF_len (N:Nat) (f:Nat→Nat→Bool):(matF N f).length=N:=by unfold matF;simp
section
variable {N i j:Nat} {f f':Nat→Nat→Bool} {g g':Nat→Bool} {T:TypeId}
theorem rowF_at (h:j<N):(rowF N g).getD j default=g j:=by
  unfold rowF;rw [List.getD_eq_getElem?_getD,List.getElem?_map,List.getElem?_range h];rfl
theorem matF_at (h:i<N):(matF N f).getD i default=rowF N (f i):=by
  unfold matF;rw [List.getD_eq_getElem?_getD,List.getElem?_map,List.getElem?_range h];rfl
theorem rowC_at (h:i<N):(rowsC T (matF N f))[i]?=some (.row T ((rowF N (f i)).map bool)):=by
  unfold rowsC matF;rw [List.getElem?_map,List.getElem?_map,List.getElem?_range h];rfl
theorem rowF_ext (h:∀ j,j<N→g j=g' j):rowF N g=rowF N g':=List.map_congr_left fun j hj=>h j (List.mem_range.1 hj)
theorem matF_ext (h:∀ i j,i<N→j<N→f i j=f' i j):matF N f=matF N f':=List.map_congr_left fun i hi=>rowF_ext fun j hj=>h i j (List.mem_range.1 hi) hj
theorem rowF_set {v:Bool} (hj:j<N) (h:∀ k,k<N→g' k=if k=j then v else g k):((rowF N g).map bool).set j (bool v)=(rowF N g').map bool:=by
  rw [← List.map_set]
  congr 1
  unfold rowF
  refine List.ext_getElem (by simp) fun k h1 h2=>?_
  have hk:k<N:=by simpa using h2
  rw [List.getElem_set,List.getElem_map,List.getElem_map,List.getElem_range,h k hk]
  by_cases q:j=k
  · rw [if_pos q,if_pos q.symm]
  · rw [if_neg q,if_neg (Ne.symm q)]
theorem rowsC_set (hi:i<N) (h:∀ k l,k<N→l<N→f' k l=if k=i then g l else f k l):(rowsC T (matF N f)).set i (.row T ((rowF N g).map bool))=rowsC T (matF N f'):=by
  unfold rowsC matF
  refine List.ext_getElem (by simp) fun k h1 h2=>?_
  have hk:k<N:=by simpa using h2
  rw [List.getElem_set]
  simp only [List.getElem_map,List.getElem_range]
  by_cases q:i=k
  · rw [if_pos q];congr 2;exact rowF_ext fun l hl=>by rw [h k l hk hl,if_pos q.symm]
  · rw [if_neg q];congr 2;exact rowF_ext fun l hl=>by rw [h k l hk hl,if_neg (Ne.symm q)]
end
/-! the equal offsets, or none -/
def sqF (q:Bool) (i j:Nat):Bool:=decide (j=i)&&q
theorem sq_step (T:TypeId) (n:Nat) (q:Bool) {i:Nat} (hi:i<n+1):rowsC T ((List.range (i+1)).map fun i=>rowF (n+1) (sqF q i))=rowsC T ((List.range i).map fun i=>rowF (n+1) (sqF q i))++[.row T ((List.replicate (n+1) (bool false)).set i (bool q))]:=by
  unfold rowsC
  rw [List.range_succ,List.map_append,List.map_append]
  congr 1
  simp only [List.map_cons,List.map_nil]
  rw [show List.replicate (n+1) (bool false)=(rowF (n+1) fun _=>false).map bool from (by unfold rowF;refine List.ext_getElem (by simp) fun k h1 h2=>?_;simp),rowF_set (g':=sqF q i) hi fun k hk=>by
    unfold sqF
    by_cases q1:k=i
    · rw [if_pos q1,decide_eq_true q1];simp
    · rw [if_neg q1,decide_eq_false q1];rfl]
/-! products -/
def prK (a b:Nat→Nat→Bool) (i k j:Nat):Bool:=(List.range k).any fun l=>decide (i≤l)&&decide (l≤j)&&a i l&&b l j
def prF (N:Nat) (a b:Nat→Nat→Bool) (i j:Nat):Bool:=prK a b i N j
theorem prK_succ (a b:Nat→Nat→Bool) (i k j:Nat):prK a b i (k+1) j=(prK a b i k j||(decide (i≤k)&&decide (k≤j)&&a i k&&b k j)):=by
  unfold prK;rw [List.range_succ,List.any_append];simp
theorem prK_start (a b:Nat→Nat→Bool) (i j:Nat):prK a b i i j=false:=by
  unfold prK
  rw [List.any_eq_false]
  intro l hl
  have:=List.mem_range.1 hl
  rw [decide_eq_false (show ¬ i≤l by omega)];simp
def prJ (a b:Nat→Nat→Bool) (i k j l:Nat):Bool:=prK a b i k l||(decide (k≤l)&&decide (l<j)&&a i k&&b k l)
theorem prJ_start (a b:Nat→Nat→Bool) (i k l:Nat):prJ a b i k k l=prK a b i k l:=by
  unfold prJ
  by_cases h:k≤l
  · rw [decide_eq_false (show ¬ l<k by omega)];simp
  · rw [decide_eq_false h];simp
theorem prJ_end {a b:Nat→Nat→Bool} {i k j l:Nat} (hi:i≤k) (h:l<j∨a i k=false):prJ a b i k j l=prK a b i (k+1) l:=by
  unfold prJ
  rw [prK_succ,decide_eq_true hi]
  rcases h with h|h
  · rw [decide_eq_true h];simp
  · rw [h];simp
theorem prJ_step {a b:Nat→Nat→Bool} {i k j l:Nat} (hk:k≤j) (ha:a i k=true):prJ a b i k (j+1) l=if l=j then (prJ a b i k j j||b k j) else prJ a b i k j l:=by
  by_cases h:l=j
  · subst h
    rw [if_pos rfl]
    unfold prJ
    rw [decide_eq_true hk,decide_eq_true (show l<l+1 by omega),decide_eq_false (show ¬ l<l by omega),ha];simp
  · rw [if_neg h]
    unfold prJ
    rw [show decide (l<j+1)=decide (l<j) from decide_eq_decide.2 (by omega)]
def prI (N:Nat) (a b:Nat→Nat→Bool) (i k l:Nat):Bool:=decide (k<i)&&prF N a b k l
end Go.We

namespace Go.Am
open Go.RowKit Go.MapKept Go.ChangeMaps
section
variable {P:Program} {w0:Fr} {M0:Nat→Prop}
variable {o:Oper} {ρ:Operand→Option SV} {ob:List (Nat×Ob)} {x y z:Operand} {T T' e:TypeId} {k b:Nat} {c:Cls} {id off:Nat} {s:St} {t:Nat} {ks:List Value} {vs:List AV} {kt et:TypeId} {kd:TypeDesc} {cs:List SV}
def endOC2 (t k u:Nat) (r r':AV) (o':List (Nat×Ob)):Exit→St→Prop
  | .normal,s|.ret,s=>((s.s.lookup t).bind (boxV s.o k)=some (.v .pl r)∧s.s.lookup u=some (.v .pl r'))∧∀ id ob,o'.lookup id=some ob→s.o.lookup id=some ob
  | _,_=>False
end
end Go.Am

namespace Go.Am
open Go.RowKit Go.MapKept Go.ChangeMaps
section
variable {P:Program} {w0:Fr} {M0:Nat→Prop}
variable {o:Oper} {ρ:Operand→Option SV} {ob:List (Nat×Ob)} {x y z:Operand} {T T' e:TypeId} {k b:Nat} {c:Cls} {id off:Nat} {s:St} {t:Nat}
end
end Go.Am

namespace Go.We
open Go.Am Go.Wb
noncomputable def pB (p:Prop):Bool:=@decide p (Classical.propDecidable p)
theorem pB_iff {p:Prop}:pB p=true↔p:=by unfold pB;exact @decide_eq_true_iff p (Classical.propDecidable p)
theorem pB_eq {p:Prop} {b:Bool} (h:b=true↔p):b=pB p:=Bool.eq_iff_iff.2 (h.trans pB_iff.symm)
def sg (w:List Int) (i j:Nat):List Int:=(w.drop i).take (j-i)
theorem sg_self (w:List Int) (i:Nat):sg w i i=[]:=by unfold sg;rw [Nat.sub_self];rfl
theorem sg_split {w:List Int} {i l j:Nat} (h1:i≤l) (h2:l≤j):sg w i j=sg w i l++sg w l j:=by
  unfold sg
  rw [show j-i=(l-i)+(j-l) by omega,List.take_add,List.drop_drop,show i+(l-i)=l by omega]
theorem sg_len {w:List Int} {i j:Nat} (h1:i≤j) (h2:j≤w.length):(sg w i j).length=j-i:=by
  unfold sg;rw [List.length_take,List.length_drop];omega
theorem sg_one {w:List Int} {i:Nat} (h:i<w.length):sg w i (i+1)=[w.getD i default]:=by
  unfold sg
  rw [show i+1-i=1 by omega,List.drop_eq_getElem_cons h,List.getD_eq_getElem?_getD,List.getElem?_eq_getElem h];rfl
theorem sg_parts {w u v:List Int} {i j:Nat} (h1:i≤j) (h2:j≤w.length) (h:sg w i j=u++v):∃ l,i≤l∧l≤j∧u=sg w i l∧v=sg w l j:=by
  have hl:=congrArg List.length h
  rw [sg_len h1 h2,List.length_append] at hl
  refine ⟨i+u.length,by omega,by omega,?_,?_⟩
  · have e := congrArg (List.take u.length) h
    rw [List.take_left' rfl] at e
    refine e.symm.trans ?_
    unfold sg
    rw [List.take_take,show min u.length (j-i)=i+u.length-i by omega]
  · have e := congrArg (List.drop u.length) h
    rw [List.drop_left' rfl] at e
    refine e.symm.trans ?_
    unfold sg
    rw [List.drop_take,List.drop_drop,show j-i-u.length=j-(i+u.length) by omega]
theorem sg_all (w:List Int):sg w 0 w.length=w:=by unfold sg;simp
noncomputable def semF (w:List Int) (r:Rx) (i j:Nat):Bool:=pB (i≤j∧sem r (sg w i j))
def Kw (r:Rx) (m:Nat) (u:List Int):Prop:=if r.kind=1 then u=[] else if r.kind=2 then ∃ a,u=[a]∧a∈r.syms else if r.kind=3 then semQ (r.kids.take m) u else if r.kind=4 then semA (r.kids.take m) u else if r.kind=5 then (if m=0 then u=[] else Star (sem (r.kids.getD 0 default)) u) else False
noncomputable def KF (w:List Int) (r:Rx) (m i j:Nat):Bool:=pB (i≤j∧Kw r m (sg w i j))
theorem prK_iff {a b:Nat→Nat→Bool} {i k j:Nat}:prK a b i k j=true↔∃ l,l<k∧i≤l∧l≤j∧a i l=true∧b l j=true:=by
  unfold prK
  rw [List.any_eq_true]
  constructor
  · rintro ⟨l, hl, h⟩
    simp only [Bool.and_eq_true,decide_eq_true_eq] at h
    exact ⟨l,List.mem_range.1 hl,h.1.1.1,h.1.1.2,h.1.2,h.2⟩
  · rintro ⟨l, h1, h2, h3, h4, h5⟩
    refine ⟨l,List.mem_range.2 h1,?_⟩
    simp only [Bool.and_eq_true,decide_eq_true_eq]
    exact ⟨⟨⟨h2,h3⟩,h4⟩,h5⟩
section
variable {w:List Int} {r:Rx} {m i j:Nat}
theorem Kw_3 (h:r.kind=3) (u:List Int):Kw r m u↔semQ (r.kids.take m) u:=by unfold Kw;rw [if_neg (by omega),if_neg (by omega),if_pos h]
theorem Kw_4 (h:r.kind=4) (u:List Int):Kw r m u↔semA (r.kids.take m) u:=by unfold Kw;rw [if_neg (by omega),if_neg (by omega),if_neg (by omega),if_pos h]
theorem Kw_5 (h:r.kind=5) (u:List Int):Kw r m u↔(if m=0 then u=[] else Star (sem (r.kids.getD 0 default)) u):=by unfold Kw;rw [if_neg (by omega),if_neg (by omega),if_neg (by omega),if_neg (by omega),if_pos h]
theorem take_next (hm:m<r.kids.length):r.kids.take (m+1)=r.kids.take m++[r.kids.getD m default]:=by
  rw [List.take_add_one,List.getElem?_eq_getElem hm,List.getD_eq_getElem?_getD,List.getElem?_eq_getElem hm];rfl
theorem KF_q (h:r.kind=3) (hm:m<r.kids.length) (hj:j<w.length+1):prF (w.length+1) (KF w r m) (semF w (r.kids.getD m default)) i j=KF w r (m+1) i j:=by
  refine pB_eq ?_
  unfold prF
  rw [prK_iff,Kw_3 h,take_next hm,semQ_app]
  constructor
  · rintro ⟨l, h1, h2, h3, h4, h5⟩
    obtain ⟨_,h4⟩:=pB_iff.1 h4
    obtain ⟨_,h5⟩:=pB_iff.1 h5
    exact ⟨by omega,_,_,sg_split h2 h3,(Kw_3 h _).1 h4,(semQ_one _ _).2 h5⟩
  · rintro ⟨h1, u, v, h2, h3, h4⟩
    obtain ⟨l,q1,q2,rfl,rfl⟩:=sg_parts h1 (by omega) h2
    exact ⟨l,by omega,q1,q2,pB_iff.2 ⟨q1,(Kw_3 h _).2 h3⟩,pB_iff.2 ⟨q2,(semQ_one _ _).1 h4⟩⟩
theorem KF_a (h:r.kind=4) (hm:m<r.kids.length):(KF w r m i j||semF w (r.kids.getD m default) i j)=KF w r (m+1) i j:=by
  refine pB_eq ?_
  rw [Bool.or_eq_true,Kw_4 h,take_next hm,semA_mem]
  unfold KF semF
  rw [pB_iff,pB_iff,Kw_4 h,semA_mem]
  constructor
  · rintro (⟨h1, x, h2, h3⟩ | ⟨h1, h2⟩)
    · exact ⟨h1,x,List.mem_append_left _ h2,h3⟩
    · exact ⟨h1,_,List.mem_append_right _ (List.mem_singleton.2 rfl),h2⟩
  · rintro ⟨h1, x, h2, h3⟩
    rcases List.mem_append.1 h2 with h2|h2
    · exact .inl ⟨h1,x,h2,h3⟩
    · rw [List.mem_singleton.1 h2] at h3;exact .inr ⟨h1,h3⟩
theorem sg_nil (h1:i≤j) (h2:j≤w.length):sg w i j=[]↔j=i:=by
  constructor
  · intro h
    have:=sg_len h1 h2
    rw [h] at this
    simp at this;omega
  · rintro rfl;exact sg_self w _
theorem KF_0 (h:r.kind=0∨r.kind=1∨r.kind=3∨r.kind=4∨r.kind=5) (hj:j<w.length+1):sqF (decide (r.kind=1)||(decide (r.kind=3)||decide (r.kind=5))) i j=KF w r 0 i j:=by
  refine pB_eq ?_
  unfold sqF
  simp only [Bool.and_eq_true,decide_eq_true_eq,Bool.or_eq_true]
  have key:i≤j∧sg w i j=[]↔j=i:=⟨fun ⟨h1,h2⟩=>(sg_nil h1 (by omega)).1 h2,fun h=>⟨by omega,(sg_nil (by omega) (by omega)).2 h⟩⟩
  rcases h with h|h|h|h|h
  · simp [Kw,h]
  · simp only [Kw, h]
    simp only [if_true]
    rw [key];simp
  · rw [Kw_3 h,List.take_zero,semQ_nil,key];simp [h]
  · rw [Kw_4 h,List.take_zero,semA_mem];simp [h]
  · rw [Kw_5 h,if_pos rfl,key];simp [h]
def stF (w:List Int) (s:List Int) (i j:Nat):Bool:=decide (j=i+1)&&decide (w.getD i default∈s)
theorem KF_2 (h:r.kind=2) (hi:i<w.length+1) (hj:j<w.length+1):stF w r.syms i j=KF w r m i j:=by
  refine pB_eq ?_
  unfold stF
  rw [Bool.and_eq_true,decide_eq_true_eq,decide_eq_true_eq]
  unfold Kw
  rw [if_neg (by omega),if_pos h]
  constructor
  · rintro ⟨rfl, h2⟩
    exact ⟨by omega,_,sg_one (by omega),h2⟩
  · rintro ⟨h1, a, h2, h3⟩
    have e:=sg_len h1 (show j≤w.length by omega)
    rw [h2] at e
    have e':j=i+1:=by simp at e;omega
    subst e'
    rw [sg_one (by omega)] at h2
    injection h2 with h2
    exact ⟨rfl,by rw [h2];exact h3⟩
end
/-! repetitions -/
def stR (x:Nat→Nat→Bool) (i:Nat):Nat→Nat→Bool
  | 0,l=>decide (l=i)
  | k+1,l=>stR x i k l||(decide (i≤k)&&decide (k≤l)&&stR x i k k&&x k l)
theorem stR_mono {x:Nat→Nat→Bool} {i k k' l:Nat} (h:k≤k') (hs:stR x i k l=true):stR x i k' l=true:=by
  induction k' with
  | zero=>rw [show k=0 by omega] at hs;exact hs
  | succ k' ih =>
    by_cases q:k=k'+1
    · rw [← q];exact hs
    · rw [stR,ih (by omega),Bool.true_or]
theorem stR_ge {x:Nat→Nat→Bool} {i:Nat}:∀ {k l:Nat},stR x i k l=true→i≤l
  | 0,l,h=>by have:=of_decide_eq_true h;omega
  | k + 1, l, h => by
    rw [stR,Bool.or_eq_true] at h
    rcases h with h|h
    · exact stR_ge h
    · simp only [Bool.and_eq_true,decide_eq_true_eq] at h;omega
theorem stR_sem {w : List Int} {y : Rx} {i : Nat} : ∀ {k l : Nat}, stR (semF w y) i k l = true → Star (sem y) (sg w i l)
  | 0,l,h=>by rw [of_decide_eq_true h,sg_self];exact .nil
  | k + 1, l, h => by
    rw [stR,Bool.or_eq_true] at h
    rcases h with h|h
    · exact stR_sem h
    · simp only [Bool.and_eq_true, decide_eq_true_eq] at h
      obtain ⟨⟨⟨h1,h2⟩,h3⟩,h4⟩:=h
      obtain ⟨_,h4⟩:=pB_iff.1 h4
      rw [sg_split h1 h2]
      have key:∀ {P:List Int→Prop} {u v:List Int},Star P u→P v→Star P (u++v):=fun hu hv=>by
        induction hu with
        | nil=>have:=Star.cons hv .nil;rwa [List.append_nil] at this
        | cons h1 _ ih=>rw [List.append_assoc];exact .cons h1 ih
      exact key (stR_sem h3) h4
theorem sem_stR {w:List Int} {y:Rx} {i N:Nat} (hN:N=w.length+1) {u:List Int} (h:Star (sem y) u):∀ {p l:Nat},i≤p→p≤l→l<N→u=sg w p l→stR (semF w y) i p p=true→stR (semF w y) i N l=true:=by
  induction h with
  | nil =>
    intro p l h1 h2 h3 h4 h5
    have:=(sg_nil (w:=w) h2 (by omega)).1 h4.symm
    subst this
    exact stR_mono (by omega) h5
  | @cons u v hu hv ih =>
    intro p l h1 h2 h3 h4 h5
    obtain ⟨q,q1,q2,rfl,rfl⟩:=sg_parts h2 (by omega) h4.symm
    refine ih (p:=q) (by omega) q2 h3 rfl ?_
    by_cases e:q=p
    · rw [e];exact h5
    · refine stR_mono (k := p + 1) (by omega) ?_
      rw [stR,Bool.or_eq_true]
      refine .inr ?_
      simp only [Bool.and_eq_true,decide_eq_true_eq]
      exact ⟨⟨⟨h1,q1⟩,h5⟩,pB_iff.2 ⟨q1,hu⟩⟩
theorem stR_start {x:Nat→Nat→Bool} {i:Nat}:stR x i i i=true:=stR_mono (k:=0) (Nat.zero_le _) (decide_eq_true rfl)
theorem KF_s {w:List Int} {r:Rx} {i j:Nat} (h:r.kind=5) (hj:j<w.length+1):stR (semF w (r.kids.getD 0 default)) i (w.length+1) j=KF w r 1 i j:=by
  refine pB_eq ?_
  rw [Kw_5 h,if_neg (by decide)]
  constructor
  · exact fun hs=>⟨stR_ge hs,stR_sem hs⟩
  · exact fun ⟨h1,h2⟩=>sem_stR rfl h2 (Nat.le_refl i) h1 hj rfl stR_start
theorem KF_end {w:List Int} {r:Rx} {i j:Nat} (hk:0≤r.kind∧r.kind≤5) (h5:r.kind=5→r.kids.length=1):KF w r r.kids.length i j=semF w r i j:=by
  refine pB_eq (pB_iff.trans ?_)
  rw [and_congr_right_iff]
  intro _
  rcases (by omega:r.kind=0∨r.kind=1∨r.kind=2∨r.kind=3∨r.kind=4∨r.kind=5) with h|h|h|h|h|h
  · exact ⟨fun q=>by simp [Kw,h] at q,fun q=>(sem_0 h _ q).elim⟩
  · rw [sem_1 h];simp [Kw,h]
  · rw [sem_2 h];simp [Kw,h]
  · rw [sem_3 h,Kw_3 h,List.take_length]
  · rw [sem_4 h,Kw_4 h,List.take_length]
  · have hl := h5 h
    rw [sem_5 h,Kw_5 h,if_neg (by omega)]
    match hk:r.kids,hl with
    | [x],_=>rw [semK_one];rfl
end Go.We

namespace Go.We
open Go.Am Go.Wb
theorem rowsC_av (T:TypeId) (m:List (List Bool)):(rowsC T m).map Cell.av=m.map boolsR:=by unfold rowsC;rw [List.map_map];rfl
section
variable {a x:Nat→Nat→Bool} {N i k j l:Nat}
/-! alternatives -/
def alJ (a x:Nat→Nat→Bool) (i k l:Nat):Bool:=a i l||(decide (l<k)&&x i l)
def alI (a x:Nat→Nat→Bool) (i k l:Nat):Bool:=a k l||(decide (k<i)&&x k l)
theorem alJ_start:alJ a x i 0 l=a i l:=by unfold alJ;simp
theorem alJ_end (h:l<N):alJ a x i N l=(a i l||x i l):=by unfold alJ;rw [decide_eq_true h];simp
theorem alJ_step:alJ a x i (k+1) l=if l=k then (alJ a x i k k||x i k) else alJ a x i k l:=by
  unfold alJ
  by_cases h:l=k
  · subst h;rw [if_pos rfl,decide_eq_true (show l<l+1 by omega),decide_eq_false (show ¬ l<l by omega)];simp
  · rw [if_neg h,show decide (l<k+1)=decide (l<k) from decide_eq_decide.2 (by omega)]
theorem alI_start:alI a x 0 k l=a k l:=by unfold alI;simp
theorem alI_end (h:k<N):alI a x N k l=(a k l||x k l):=by unfold alI;rw [decide_eq_true h];simp
theorem alI_here:alI a x i i l=a i l:=by unfold alI;simp
theorem alI_step:alI a x (i+1) k l=if k=i then (a i l||x i l) else alI a x i k l:=by
  unfold alI
  by_cases h:k=i
  · subst h;rw [if_pos rfl,decide_eq_true (show k<k+1 by omega)];simp
  · rw [if_neg h,show decide (k<i+1)=decide (k<i) from decide_eq_decide.2 (by omega)]
/-! repetitions -/
def stJ (x:Nat→Nat→Bool) (i k j l:Nat):Bool:=stR x i k l||(decide (k≤l)&&decide (l<j)&&stR x i k k&&x k l)
def stI (N:Nat) (x:Nat→Nat→Bool) (i k l:Nat):Bool:=if k<i then stR x k N l else decide (l=k)
theorem stR_i:∀ {k:Nat},k≤i→stR x i k l=decide (l=i)
  | 0,_=>rfl
  | k+1,h=>by rw [stR,stR_i (by omega),decide_eq_false (show ¬ i≤k by omega)];simp
theorem stJ_start:stJ x i k k l=stR x i k l:=by
  unfold stJ
  by_cases h:k≤l
  · rw [decide_eq_false (show ¬ l<k by omega)];simp
  · rw [decide_eq_false h];simp
theorem stJ_k:stJ x i k j k=stR x i k k:=by
  unfold stJ
  cases stR x i k k<;>simp
theorem stJ_end (hi:i≤k) (h:l<j∨stR x i k k=false):stJ x i k j l=stR x i (k+1) l:=by
  unfold stJ
  rw [stR,decide_eq_true hi]
  rcases h with h|h
  · rw [decide_eq_true h];simp
  · rw [h];simp
theorem stJ_step (hk:k≤j) (ha:stR x i k k=true):stJ x i k (j+1) l=if l=j then (stJ x i k j j||x k j) else stJ x i k j l:=by
  by_cases h:l=j
  · subst h
    rw [if_pos rfl]
    unfold stJ
    rw [decide_eq_true hk,decide_eq_true (show l<l+1 by omega),decide_eq_false (show ¬ l<l by omega),ha];simp
  · rw [if_neg h]
    unfold stJ
    rw [show decide (l<j+1)=decide (l<j) from decide_eq_decide.2 (by omega)]
theorem stI_start:stI N x 0 k l=sqF true k l:=by unfold stI sqF;simp
theorem stI_here:stI N x i i l=decide (l=i):=by unfold stI;rw [if_neg (Nat.lt_irrefl i)]
theorem stI_end (h:k<N):stI N x N k l=stR x k N l:=by unfold stI;rw [if_pos h]
theorem stI_step:stI N x (i+1) k l=if k=i then stR x i N l else stI N x i k l:=by
  unfold stI
  by_cases h:k=i
  · subst h;rw [if_pos (by omega),if_pos rfl]
  · rw [if_neg h]
    by_cases q:k<i
    · rw [if_pos q,if_pos (by omega)]
    · rw [if_neg q,if_neg (by omega)]
/-! sets -/
def seJ (w s:List Int) (i k l:Nat):Bool:=decide (l=i+1)&&decide (w.getD i default∈s.take k)
def seI (w s:List Int) (i k l:Nat):Bool:=decide (k<i)&&stF w s k l
theorem seJ_start {w s:List Int}:seJ w s i 0 l=false:=by unfold seJ;simp
theorem seJ_end {w s:List Int} (h:s.length≤k):seJ w s i k l=stF w s i l:=by unfold seJ stF;rw [List.take_of_length_le h]
theorem seJ_step {w s:List Int} (h:k<s.length):seJ w s i (k+1) l=if l=i+1 then (seJ w s i k (i+1)||decide (s.getD k default=w.getD i default)) else seJ w s i k l:=by
  unfold seJ
  by_cases q:l=i+1
  · subst q
    rw [if_pos rfl,decide_eq_true rfl,Bool.true_and,Bool.true_and,List.take_add_one,List.getElem?_eq_getElem h,List.getD_eq_getElem?_getD (l:=s),List.getElem?_eq_getElem h]
    refine Bool.eq_iff_iff.2 ?_
    simp only [Option.toList_some,List.mem_append,List.mem_singleton,decide_eq_true_eq,Bool.or_eq_true,Option.getD_some]
    exact or_congr_right eq_comm
  · rw [if_neg q,decide_eq_false q];rfl
theorem seI_start {w s:List Int}:seI w s 0 k l=sqF false k l:=by unfold seI sqF;simp
theorem seI_here {w s:List Int}:seI w s i i l=false:=by unfold seI;simp
theorem seI_end {w s:List Int} (h:k<i):seI w s i k l=stF w s k l:=by unfold seI;rw [decide_eq_true h];rfl
theorem seI_step {w s:List Int}:seI w s (i+1) k l=if k=i then stF w s i l else seI w s i k l:=by
  unfold seI
  by_cases h:k=i
  · subst h;rw [if_pos rfl,decide_eq_true (show k<k+1 by omega)];rfl
  · rw [if_neg h,show decide (k<i+1)=decide (k<i) from decide_eq_decide.2 (by omega)]
end
end Go.We

namespace Go.We
open Go.Am Go.Wb
theorem validR_wf {r:Rx} (h:validR r=true):(0≤r.kind∧r.kind≤5)∧(r.kind=5→r.kids.length=1)∧(r.kind=0∨r.kind=1∨r.kind=2→r.kids.length=0):=by
  have hk:0≤r.kind∧r.kind≤5:=by
    by_cases q:r.kind<0∨5<r.kind
    · rw [validR_no q] at h;cases h
    · omega
  refine ⟨hk,fun q=>?_,fun q=>?_⟩
  · rw [validR_5 q] at h
    simp only [Bool.and_eq_true,decide_eq_true_eq] at h
    exact h.2.1
  · rcases q with q | q | q
    · rw [validR_01 (.inl q)] at h;simp only [Bool.and_eq_true,decide_eq_true_eq] at h;exact h.2
    · rw [validR_01 (.inr q)] at h;simp only [Bool.and_eq_true,decide_eq_true_eq] at h;exact h.2
    · rw [validR_2 q] at h;simp only [Bool.and_eq_true,decide_eq_true_eq] at h;exact h.1
theorem validR_kid {r:Rx} (h:validR r=true) {m:Nat} (hm:m<r.kids.length):validR (r.kids.getD m default)=true:=by
  obtain ⟨h1,h2,h3⟩:=validR_wf h
  rcases (by omega:(r.kind=0∨r.kind=1∨r.kind=2)∨(r.kind=3∨r.kind=4)∨r.kind=5) with q|q|q
  · have:=h3 q;omega
  · rw [validR_34 q] at h
    simp only [Bool.and_eq_true,Bool.not_eq_true',List.any_eq_false,Bool.not_eq_true,Bool.not_eq_false'] at h
    have:=h.2 _ (kid_mem hm)
    simpa using this
  · have := h2 q
    have e:m=0:=by omega
    subst e
    rw [validR_5 q] at h
    simp only [Bool.and_eq_true,decide_eq_true_eq] at h
    exact h.2.2
section
variable {w:List Int} {r:Rx} {i m:Nat}
abbrev qF (r:Rx):Bool:=decide (r.kind=1)||(decide (r.kind=3)||decide (r.kind=5))
theorem qF_1 (h:r.kind=1):qF r=true:=by simp [qF,h]
theorem qF_3 (h:r.kind=3):qF r=true:=by simp [qF,h]
theorem qF_n (h:r.kind≠1) (h3:r.kind≠3):qF r=decide (r.kind=5):=by simp [qF,h,h3]
noncomputable def f0 (w:List Int) (r:Rx) (i:Nat):Nat→Nat→Bool:=if r.kind=2 then seI w r.syms i else sqF (qF r)
theorem f0_start:matF (w.length+1) (sqF (qF r))=matF (w.length+1) (f0 w r 0):=matF_ext fun k l _ _=>by
  unfold f0
  by_cases h:r.kind=2
  · rw [if_pos h,seI_start,show qF r=false from by simp [qF,h]]
  · rw [if_neg h]
theorem f0_two (h:r.kind=2):f0 w r i=seI w r.syms i:=if_pos h
theorem f0_end (hk:0≤r.kind∧r.kind≤5) (h:r.kind≠2→i=0) (hx:r.kind=2→i=w.length):matF (w.length+1) (f0 w r i)=matF (w.length+1) (KF w r 0):=matF_ext fun k l hkk hl=>by
  by_cases q:r.kind=2
  · rw [f0_two q, hx q, ← KF_2 q hkk hl]
    by_cases e:k<w.length
    · exact seI_end e
    · unfold seI stF
      rw [decide_eq_false e,decide_eq_false (show ¬ l=k+1 by omega)];rfl
  · unfold f0
    rw [if_neg q]
    exact KF_0 (by omega) hl
noncomputable def f1 (w:List Int) (r:Rx) (m:Nat):Nat→Nat→Bool:=if r.kind=3 then KF w r (m+1) else KF w r m
noncomputable def f2 (w:List Int) (r:Rx) (m:Nat):Nat→Nat→Bool:=if r.kind=3∨r.kind=4 then KF w r (m+1) else KF w r m
noncomputable abbrev kidF (w:List Int) (r:Rx) (m:Nat):Nat→Nat→Bool:=semF w (r.kids.getD m default)
noncomputable def a4 (w:List Int) (r:Rx) (m i:Nat):Nat→Nat→Bool:=if r.kind=4 then alI (KF w r m) (kidF w r m) i else f1 w r m
noncomputable def a6 (w:List Int) (r:Rx) (m i:Nat):Nat→Nat→Bool:=if r.kind=5 then stI (w.length+1) (kidF w r m) i else f2 w r m
theorem f1_q (h:r.kind=3) (hm:m<r.kids.length):matF (w.length+1) (prF (w.length+1) (KF w r m) (kidF w r m))=matF (w.length+1) (f1 w r m):=matF_ext fun k l _ hl=>by
  unfold f1;rw [if_pos h];exact KF_q h hm hl
theorem f1_n (h:r.kind≠3):f1 w r m=KF w r m:=if_neg h
theorem a4_start:matF (w.length+1) (f1 w r m)=matF (w.length+1) (a4 w r m 0):=matF_ext fun k l _ _=>by
  unfold a4
  by_cases h:r.kind=4
  · rw [if_pos h,alI_start,f1_n (by omega)]
  · rw [if_neg h]
theorem a4_four (h:r.kind=4):a4 w r m i=alI (KF w r m) (kidF w r m) i:=if_pos h
theorem a4_end (hm:m<r.kids.length) (h:r.kind≠4→i=0) (hx:r.kind=4→i=w.length+1):matF (w.length+1) (a4 w r m i)=matF (w.length+1) (f2 w r m):=matF_ext fun k l hk _=>by
  by_cases q:r.kind=4
  · rw [a4_four q, hx q, alI_end hk]
    unfold f2
    rw [if_pos (.inr q)]
    exact KF_a q hm
  · unfold a4 f1 f2
    rw [if_neg q]
    by_cases q3:r.kind=3
    · rw [if_pos q3,if_pos (.inl q3)]
    · rw [if_neg q3,if_neg (by omega)]
theorem a6_start (h5:r.kind=5→r.kids.length=1) (hm:m<r.kids.length):matF (w.length+1) (f2 w r m)=matF (w.length+1) (a6 w r m 0):=matF_ext fun k l _ hl=>by
  unfold a6
  by_cases h:r.kind=5
  · have := h5 h
    have e:m=0:=by omega
    subst e
    rw [if_pos h,stI_start]
    unfold f2
    rw [if_neg (by omega),← KF_0 (by omega) hl]
    congr 1
    simp [h]
  · rw [if_neg h]
theorem a6_five (h:r.kind=5):a6 w r m i=stI (w.length+1) (kidF w r m) i:=if_pos h
theorem a6_end (hv:validR r=true) (hm:m<r.kids.length) (h:r.kind≠5→i=0) (hx:r.kind=5→i=w.length+1):matF (w.length+1) (a6 w r m i)=matF (w.length+1) (KF w r (m+1)):=matF_ext fun k l hk hl=>by
  obtain ⟨h1,h2,h3⟩:=validR_wf hv
  by_cases q:r.kind=5
  · have := h2 q
    have e:m=0:=by omega
    subst e
    rw [a6_five q,hx q,stI_end hk]
    exact KF_s q hl
  · unfold a6 f2
    rw [if_neg q, if_pos (by have : ¬ (r.kind = 0 ∨ r.kind = 1 ∨ r.kind = 2) := fun h => by have := h3 h; omega
                             omega)]
theorem KF_all (hv:validR r=true):matF (w.length+1) (KF w r r.kids.length)=matF (w.length+1) (semF w r):=matF_ext fun k l _ _=>by
  obtain ⟨h1,h2,h3⟩:=validR_wf hv
  exact KF_end h1 h2
end
end Go.We

namespace Go.Am
open Go.RowKit
section
variable {P:Program} {w0:Fr} {M0:Nat→Prop} {s:St} {id:Nat} {e:TypeId} {cs:List Cell} {E:Env} {a:Act} {w:World}
theorem SimE.renN (u:Nat) (h:SimE P w0 M0 E s a w) (hnd:Nodup s.s=true) (hM0:∀ b,M0 b→b<w0.w.heap.size) (hl:s.o.lookup id=some (.nar e cs none)) (hu:u≠id) :
    ∃ E':Env,E'.cur u=E.cur id∧SimE P w0 M0 E' { n:=s.n,s:=s.s.filter (fun p=>p.2.stays true u&&p.2.stays true id),o:=ins u (.nar e cs none) (dropO id (killP (fun d=>d.stays true u&&d.stays true id) s.o)) } a w:=by
  obtain ⟨n,vals,g1,g2,g3,g4,g5⟩:=h.wok.objs id _ hl
  obtain ⟨E',e1,e2,e3,e4,e5⟩:∃ E':Env,E'.cur u=E.cur id∧(∀ i,i≠u→E'.cur i=E.cur i)∧E'.blk=E.blk∧E'.sub u=E.sub id∧(∀ i,i≠u→E'.sub i=E.sub i) :=
    ⟨{ E with cur:=fun i=>if i=u then E.cur id else E.cur i,sub:=fun i=>if i=u then E.sub id else E.sub i },if_pos rfl,fun i hi=>if_neg hi,rfl,if_pos rfl,fun i hi=>if_neg hi⟩
  have hN:∀ i q,(if i=u then some (some (Ob.nar e cs none)) else if i=id then some none else none:Option (Option Ob))=some q→(i=u∧q=some (.nar e cs none))∨(i=id∧q=none):=fun i q hq=>by
    by_cases h1:i=u
    · rw [if_pos h1] at hq;injection hq with hq;exact .inl ⟨h1,hq.symm⟩
    · rw [if_neg h1] at hq
      by_cases h2:i=id
      · rw [if_pos h2] at hq;injection hq with hq;exact .inr ⟨h2,hq.symm⟩
      · rw [if_neg h2] at hq;cases hq
  refine ⟨E',e1,?_⟩
  refine SimE.updL (E':=E') (fun d=>d.stays true u&&d.stays true id) (fun i=>if i=u then some (some (.nar e cs none)) else if i=id then some none else none) _ (fun i=>?_) (fun d=>rfl) (fun i ob hq hx=>?_) (fun i hq=>?_) h hnd hM0 (fun i hq=>?_) (fun x hx=>by rw [e3]) none ⟨rfl,rfl,rfl,Nat.le_refl _,fun _ _ _=>rfl⟩ (fun _=>Nat.le_refl _) (fun g hg=>by cases hg) (fun i ob b hq hb=>.inl ?_) (fun i ob i' ob' b hq hq' hb hb'=>?_) (fun rep sv lents i ob hq=>?_)
  · rw [lookup_ins]
    by_cases q1:i=u
    · rw [if_pos q1,if_pos q1]
    · rw [if_neg q1, if_neg q1, lookup_dropO]
      by_cases q2:i=id
      · rw [if_pos q2,if_pos q2]
      · rw [if_neg q2,if_neg q2];exact lookup_killP _ i s.o
  · rcases hN i _ hq with ⟨rfl, _⟩ | ⟨_, q⟩
    · obtain ⟨d, q1, q2⟩ := hx
      rw [stays_refs q1] at q2;cases q2
    · cases q
  · rcases hN i _ hq with ⟨_, q⟩ | ⟨rfl, _⟩
    · cases q
    · exact ⟨e2 i (Ne.symm hu),by rw [e3]⟩
  · have hit : i ≠ u := fun q => by rw [if_pos q] at hq; cases hq
    exact ⟨e2 i hit,by rw [e3],e5 i hit⟩
  · rcases hN i _ hq with ⟨rfl, q⟩ | ⟨_, q⟩
    · injection q with q; subst q
      refine ⟨id,_,by rw [if_neg (Ne.symm hu),if_pos rfl];simp,hl,?_⟩
      simpa only [ownB,e1,e4] using hb
    · cases q
  · rcases hN i _ hq with ⟨rfl, _⟩ | ⟨_, q⟩
    · rcases hN i' _ hq' with ⟨rfl, _⟩ | ⟨_, q⟩
      · rfl
      · cases q
    · cases q
  · rcases hN i _ hq with ⟨rfl, q⟩ | ⟨_, q⟩
    · injection q with q; subst q
      refine ⟨n,vals,by rw [e1];exact g1,g2,by rw [e4];exact g3,?_,by rw [e1,e4];exact g5⟩
      rw [e4]
      exact g4.go (LnTo.none _ _) (fun _ _=>rfl) (fun _ _ hf=>hf) (fun v d hr=>rep .pl v d hr (by simp))
    · cases q
theorem imp_renN (t u:Nat) (hM0:∀ b,M0 b→b<w0.w.heap.size) (hnd:Nodup s.s=true) (ht:s.s.lookup t=some (.nst id)) (hl:s.o.lookup id=some (.nar e cs none)) (hne:Nat.beq u id=false) :
    Imp P w0 M0 s (({ n:=s.n,s:=s.s.filter (fun p=>p.2.stays true u&&p.2.stays true id),o:=ins u (.nar e cs none) (dropO id (killP (fun d=>d.stays true u&&d.stays true id) s.o)) }:St).put t (.nst u)):=by
  rintro a w ⟨E,hs⟩
  have h0:=hs.slots t _ ht
  obtain ⟨E',e1,h1⟩:=hs.renN u hnd hM0 hl (fun q=>by rw [q,Nat.beq_refl] at hne;cases hne)
  refine ⟨E',h1.retag h0.1 ⟨fun e' cs' ln hh=>by rw [e1];exact h0.2.1 e cs none hl,fun ks cs' ln hh=>?_⟩⟩
  rw [show (ins u (Ob.nar e cs none) (dropO id (killP (fun d=>d.stays true u&&d.stays true id) s.o))).lookup u=_ from by rw [lookup_ins,if_pos rfl]] at hh
  cases hh
theorem ol_renN {ops:Array Oper} {Q:St→Prop} {l':List Oper} (t u:Nat) (hM0:∀ b,M0 b→b<w0.w.heap.size) (hnd:Nodup s.s=true) (ht:s.s.lookup t=some (.nst id)) (hl:s.o.lookup id=some (.nar e cs none)) (hne:Nat.beq u id=false)
    (h:OpsL P w0 M0 ops Q l' (({ n:=s.n,s:=s.s.filter (fun p=>p.2.stays true u&&p.2.stays true id),o:=ins u (.nar e cs none) (dropO id (killP (fun d=>d.stays true u&&d.stays true id) s.o)) }:St).put t (.nst u))):OpsL P w0 M0 ops Q l' s:=OpsL.imp (imp_renN t u hM0 hnd ht hl hne) h
end
end Go.Am

