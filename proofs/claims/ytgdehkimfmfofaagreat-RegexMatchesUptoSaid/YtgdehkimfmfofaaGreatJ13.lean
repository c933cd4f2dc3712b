/-
  Plain functions: an expression built anew,kid by kid.
-/
import Derived.Test.YtgdehkimfmfofaaGreatJ8
set_option linter.unusedVariables false
set_option linter.unusedSectionVars false
set_option linter.unusedSimpArgs false
namespace Go.Wb
open Go.Am
inductive Rx where
  | mk (kind:Int) (syms:List Int) (kids:List Rx)
def Rx.kind:Rx→Int|.mk k _ _=>k
def Rx.syms:Rx→List Int|.mk _ s _=>s
def Rx.kids:Rx→List Rx|.mk _ _ l=>l
instance:Inhabited Rx:=⟨.mk 0 [] []⟩
mutual
def Rx.av:Rx→AV
  | .mk k s l=>.agg [int k,ints s,.sl (Rx.avs l)]
def Rx.avs:List Rx→List AV
  | []=>[]
  | x :: l=>x.av :: Rx.avs l
end
def rx (r:Rx):AV:=.agg [int r.kind,ints r.syms,.sl (Rx.avs r.kids)]
abbrev rxs (l:List Rx):AV:=.sl (l.map rx)
theorem av_eq (r:Rx):r.av=rx r:=by cases r with|mk k s l=>rw [Rx.av];rfl
theorem avs_eq:∀ l:List Rx,Rx.avs l=l.map rx
  | []=>by rw [Rx.avs];rfl
  | x :: l=>by rw [Rx.avs,avs_eq l,av_eq];rfl
theorem rx_eq (r:Rx):rx r=.agg [int r.kind,ints r.syms,rxs r.kids]:=by unfold rx;rw [avs_eq]
abbrev rpc (r:Rx):AV:=.pc [int r.kind,ints r.syms,rxs r.kids] 0
abbrev rcells (c:Cls) (r:Rx):List SV:=[.v c (int r.kind),.v c (ints r.syms),.v c (rxs r.kids)]
mutual
def Rx.size:Rx→Nat
  | .mk _ s l=>1+s.length+Rx.sizes l
def Rx.sizes:List Rx→Nat
  | []=>0
  | x :: l=>x.size+Rx.sizes l
end
theorem size_mem:∀ {l:List Rx} {x:Rx},x∈l→x.size≤Rx.sizes l
  | y :: l, x, h => by
    rw [Rx.sizes]
    rcases List.mem_cons.1 h with rfl|h
    · omega
    · have:=size_mem h;omega
theorem size_kid {r x:Rx} (h:x∈r.kids):x.size<r.size:=by
  cases r with|mk k s l=>rw [Rx.size];have:=size_mem (l:=l) h;omega

theorem size_pos (r:Rx):1≤r.size:=by cases r with|mk k s l=>rw [Rx.size];omega
theorem kid_mem {l:List Rx} {i:Nat} (h:i<l.length):l.getD i default∈l:=by
  rw [List.getD_eq_getElem?_getD,List.getElem?_eq_getElem h];exact List.getElem_mem h
theorem kid_lt {r:Rx} {i:Nat} (h:i<r.kids.length):(r.kids.getD i default).size<r.size:=size_kid (kid_mem h)
theorem drop_cons {α:Type} [Inhabited α] {l:List α} {k:Nat} (h:k<l.length):l.drop k=l.getD k default :: l.drop (k+1):=by
  rw [List.drop_eq_getElem_cons h,List.getD_eq_getElem?_getD,List.getElem?_eq_getElem h];rfl
theorem sizes_len:∀ l:List Rx,l.length≤Rx.sizes l
  | []=>Nat.zero_le _
  | x :: l=>by rw [Rx.sizes,List.length_cons];have:=sizes_len l;have:=size_pos x;omega
theorem size_eq (r:Rx):r.size=1+r.syms.length+Rx.sizes r.kids:=by cases r with|mk k s l=>rw [Rx.size];rfl
theorem syms_len (r:Rx):r.syms.length<r.size:=by rw [size_eq];omega
theorem kids_len (r:Rx):r.kids.length<r.size:=by rw [size_eq];have:=sizes_len r.kids;omega

mutual
def nodesV (most:Int):Rx→Int
  | .mk _ _ l=>nodesG most 1 l
def nodesG (most:Int) (n:Int):List Rx→Int
  | []=>n
  | x :: l=>if n≤most then nodesG most (n+nodesV most x) l else n
end
theorem nodesV_eq (most:Int) (r:Rx):nodesV most r=nodesG most 1 r.kids:=by cases r with|mk k s l=>rw [nodesV];rfl
theorem nodesG_step {most n:Int} {l:List Rx} {i:Nat} (h:i<l.length) (hn:n≤most):nodesG most n (l.drop i)=nodesG most (n+nodesV most (l.getD i default)) (l.drop (i+1)):=by
  rw [drop_cons h,nodesG,if_pos hn]
theorem nodesG_end {most n:Int} {l:List Rx} {i:Nat} (h:l.length≤i∨most<n):nodesG most n (l.drop i)=n:=by
  rcases Nat.lt_or_ge i l.length with q|q
  · rw [drop_cons q,nodesG,if_neg (by omega)]
  · rw [List.drop_of_length_le q,nodesG]
theorem sizes_step {l:List Rx} {i:Nat} (h:i<l.length):Rx.sizes (l.drop i)=(l.getD i default).size+Rx.sizes (l.drop (i+1)):=by
  rw [drop_cons h,Rx.sizes]
mutual
theorem nodesV_bd (most:Int):∀ r:Rx,1≤nodesV most r∧nodesV most r≤r.size
  | .mk _ _ l => by
    rw [nodesV,Rx.size]
    have:=nodesG_bd most 1 (by omega) l
    omega
theorem nodesG_bd (most n:Int) (hn:1≤n):∀ l:List Rx,1≤nodesG most n l∧nodesG most n l≤n+Rx.sizes l
  | []=>by rw [nodesG,Rx.sizes];omega
  | x :: l => by
    rw [nodesG,Rx.sizes]
    have h1:=nodesV_bd most x
    have h2:=nodesG_bd most (n+nodesV most x) (by omega) l
    split<;>omega
end

def okAt (l:List Int) (j:Nat):Prop:=0≤l.getD j default∧l.getD j default<64∧(0<j→l.getD ((j:Int)-1).toNat default<l.getD j default)
instance (l:List Int) (j:Nat):Decidable (okAt l j):=by unfold okAt;exact inferInstance
def setOk (l:List Int):Bool:=decide (0<l.length∧∀ j,j<l.length→okAt l j)
theorem setOk_no {l:List Int} {k:Nat} (hk:k<l.length) (h:¬ okAt l k):false=setOk l:=by
  symm;unfold setOk;rw [decide_eq_false_iff_not];exact fun q=>h (q.2 k hk)
theorem setOk_end {l:List Int} (h:∀ j,j<l.length→okAt l j):setOk l=decide (0<l.length):=by
  unfold setOk;exact decide_eq_decide.2 ⟨fun q=>q.1,fun q=>⟨q,h⟩⟩
theorem all_step {P:Nat→Prop} {k:Nat} (h:∀ j,j<k→P j) (h2:P k):∀ j,j<k+1→P j:=fun j hj=>by
  rcases Nat.lt_or_eq_of_le (Nat.lt_succ_iff.1 hj) with q|rfl
  · exact h j q
  · exact h2
def orderI (a b:Int):Int:=if a<b then -1 else if b<a then 1 else 0
def thn (c d:Int):Int:=if c=0 then d else c
def orderL:List Int→List Int→Int
  | [],[]=>0
  | [],_ :: _=>-1
  | _ :: _,[]=>1
  | x :: xs,y :: ys=>thn (orderI x y) (orderL xs ys)
mutual
def cmpR:Rx→Rx→Int
  | .mk k s l,b=>thn (orderI k b.kind) (thn (orderL s b.syms) (cmpRs l b.kids))
def cmpRs:List Rx→List Rx→Int
  | [],[]=>0
  | [],_ :: _=>-1
  | _ :: _,[]=>1
  | x :: xs,y :: ys=>thn (cmpR x y) (cmpRs xs ys)
end
theorem cmpR_eq (a b:Rx):cmpR a b=thn (thn (orderI a.kind b.kind) (orderL a.syms b.syms)) (cmpRs a.kids b.kids):=by
  cases a with|mk k s l =>
  rw [cmpR];show _=thn (thn (orderI k _) (orderL s _)) (cmpRs l _)
  unfold thn;split<;>simp_all
theorem orderL_step {a b:List Int} {k:Nat} (ha:k<a.length) (hb:k<b.length):orderL (a.drop k) (b.drop k)=thn (orderI (a.getD k default) (b.getD k default)) (orderL (a.drop (k+1)) (b.drop (k+1))):=by
  rw [drop_cons ha,drop_cons hb];rfl
theorem orderL_end {a b:List Int} {k:Nat} (h:a.length≤k∨b.length≤k) (ha:k≤a.length) (hb:k≤b.length):orderL (a.drop k) (b.drop k)=orderI a.length b.length:=by
  unfold orderI
  rcases Nat.lt_or_ge k a.length with h1|h1
  · have h2 : b.length ≤ k := by omega
    rw [drop_cons h1,List.drop_of_length_le h2,if_neg (by omega),if_pos (by omega)];rfl
  · rw [List.drop_of_length_le h1]
    rcases Nat.lt_or_ge k b.length with h2|h2
    · rw [drop_cons h2,if_pos (by omega)];rfl
    · rw [List.drop_of_length_le h2,if_neg (by omega),if_neg (by omega)];rfl
theorem cmpRs_step {a b:List Rx} {k:Nat} (ha:k<a.length) (hb:k<b.length):cmpRs (a.drop k) (b.drop k)=thn (cmpR (a.getD k default) (b.getD k default)) (cmpRs (a.drop (k+1)) (b.drop (k+1))):=by
  rw [drop_cons ha,drop_cons hb,cmpRs]
theorem cmpRs_end {a b:List Rx} {k:Nat} (h:a.length≤k∨b.length≤k) (ha:k≤a.length) (hb:k≤b.length):cmpRs (a.drop k) (b.drop k)=orderI a.length b.length:=by
  unfold orderI
  rcases Nat.lt_or_ge k a.length with h1|h1
  · have h2 : b.length ≤ k := by omega
    rw [drop_cons h1,List.drop_of_length_le h2,if_neg (by omega),if_pos (by omega),cmpRs]
  · rw [List.drop_of_length_le h1]
    rcases Nat.lt_or_ge k b.length with h2|h2
    · rw [drop_cons h2,if_pos (by omega),cmpRs]
    · rw [List.drop_of_length_le h2,if_neg (by omega),if_neg (by omega),cmpRs]
theorem thn_zero {c d:Int} (h:c=0):thn c d=d:=if_pos h
theorem thn_ne {c d:Int} (h:¬ c=0):thn c d=c:=if_neg h
theorem thn_end {T c d:Int} (h:T=thn c d) (hc:¬ c=0):c=T:=by rw [h,thn_ne hc]
theorem thn_ord {T c:Int} {a b:List Int} {i:Nat} (h:T=thn c (orderL (a.drop i) (b.drop i))) (hc:c=0) (ha:i≤a.length) (hb:i≤b.length) (hi:a.length≤i∨b.length≤i):orderI a.length b.length=T:=by
  rw [h,thn_zero hc,orderL_end hi ha hb]
theorem thn_cmp {T c:Int} {a b:List Rx} {i:Nat} (h:T=thn c (cmpRs (a.drop i) (b.drop i))) (hc:c=0) (ha:i≤a.length) (hb:i≤b.length) (hi:a.length≤i∨b.length≤i):orderI a.length b.length=T:=by
  rw [h,thn_zero hc,cmpRs_end hi ha hb]
theorem thn_ordS {T c:Int} {a b:List Int} {i:Nat} (h:T=thn c (orderL (a.drop i) (b.drop i))) (hc:c=0) (ha:i<a.length) (hb:i<b.length):T=thn (orderI (a.getD i default) (b.getD i default)) (orderL (a.drop (i+1)) (b.drop (i+1))):=by
  rw [h,thn_zero hc,orderL_step ha hb]
theorem thn_cmpS {T c:Int} {a b:List Rx} {i:Nat} (h:T=thn c (cmpRs (a.drop i) (b.drop i))) (hc:c=0) (ha:i<a.length) (hb:i<b.length):T=thn (cmpR (a.getD i default) (b.getD i default)) (cmpRs (a.drop (i+1)) (b.drop (i+1))):=by
  rw [h,thn_zero hc,cmpRs_step ha hb]

mutual
def validR:Rx→Bool
  | .mk k s l=>if k<0∨5<k then false else if k=2 then setOk s&&decide (l.length=0) else
      if 0<s.length∨(k≤1∧0<l.length)∨(k=5∧l.length≠1) then false else validRs l
def validRs:List Rx→Bool
  | []=>true
  | x :: l=>validR x&&validRs l
end
theorem validR_eq (r:Rx):validR r=if r.kind<0∨5<r.kind then false else if r.kind=2 then setOk r.syms&&decide (r.kids.length=0) else
      if 0<r.syms.length∨(r.kind≤1∧0<r.kids.length)∨(r.kind=5∧r.kids.length≠1) then false else validRs r.kids:=by
  cases r with|mk k s l=>rw [validR];rfl
theorem validRs_all:∀ l:List Rx,validRs l=l.all validR
  | []=>by rw [validRs];rfl
  | x :: l=>by rw [validRs,validRs_all l];rfl
theorem validRs_no {l:List Rx} {i:Nat} (h:i<l.length) (hv:validR (l.getD i default)=false):validRs l=false:=by
  rw [validRs_all,List.all_eq_false];exact ⟨_,kid_mem h,by rw [hv];exact Bool.false_ne_true⟩
theorem validRs_end {l:List Rx} (h:∀ j,j<l.length→validR (l.getD j default)=true):validRs l=true:=by
  rw [validRs_all,List.all_eq_true]
  intro x hx
  obtain ⟨j,hj,rfl⟩:=List.getElem_of_mem hx
  have:=h j hj
  rwa [List.getD_eq_getElem?_getD,List.getElem?_eq_getElem hj] at this

def idxF {α:Type} [Inhabited α] (p:α→Bool) (l:List α):Int:=if l.any p then (l.findIdx p:Nat) else -1
theorem any_no {α:Type} [Inhabited α] {p:α→Bool} {l:List α} (h:∀ j,j<l.length→p (l.getD j default)=false):l.any p=false:=by
  rw [List.any_eq_false]
  intro x hx
  obtain ⟨j,hj,rfl⟩:=List.getElem_of_mem hx
  have:=h j hj
  rw [List.getD_eq_getElem?_getD,List.getElem?_eq_getElem hj] at this
  exact fun q=>by rw [Option.getD_some] at this;rw [q] at this;exact absurd this (by decide)
theorem idxF_none {α:Type} [Inhabited α] {p:α→Bool} {l:List α} (h:∀ j,j<l.length→p (l.getD j default)=false):-1=idxF p l:=by
  unfold idxF;rw [any_no h];rfl
theorem idxF_hit {α:Type} [Inhabited α] {p:α→Bool} {l:List α} {k:Nat} (hk:k<l.length) (h:∀ j,j<k→p (l.getD j default)=false) (hp:p (l.getD k default)=true):(k:Int)=idxF p l:=by
  have hg:l.getD k default=l[k]:=by rw [List.getD_eq_getElem?_getD,List.getElem?_eq_getElem hk];rfl
  rw [hg] at hp
  unfold idxF
  rw [if_pos (List.any_eq_true.2 ⟨_,List.getElem_mem hk,hp⟩)]
  have h1:l.findIdx p=k:=by
    refine (List.findIdx_eq hk).2 ⟨hp,fun j hj=>?_⟩
    have:=h j hj
    rwa [List.getD_eq_getElem?_getD,List.getElem?_eq_getElem (by omega)] at this
  rw [h1]
theorem idxF_ge {α:Type} [Inhabited α] (p:α→Bool) (l:List α):decide (0≤idxF p l)=l.any p:=by
  unfold idxF;split
  · rename_i h;rw [h];exact decide_eq_true (by omega)
  · rename_i h;rw [Bool.not_eq_true] at h;rw [h];rfl

mutual
def accR:Rx→Bool
  | .mk k _ l=>if k=3 then accAll l else if k=4 then accAny l else decide (k=1∨k=5)
def accAll:List Rx→Bool
  | []=>true
  | x :: l=>accR x&&accAll l
def accAny:List Rx→Bool
  | []=>false
  | x :: l=>accR x||accAny l
end
theorem accAll_eq:∀ l:List Rx,accAll l=l.all accR
  | []=>by rw [accAll];rfl
  | x :: l=>by rw [accAll,accAll_eq l];rfl
theorem accAny_eq:∀ l:List Rx,accAny l=l.any accR
  | []=>by rw [accAny];rfl
  | x :: l=>by rw [accAny,accAny_eq l];rfl
theorem accR_eq (r:Rx):accR r=if r.kind=3 then r.kids.all accR else if r.kind=4 then r.kids.any accR else decide (r.kind=1∨r.kind=5):=by
  cases r with|mk k s l=>rw [accR,accAll_eq,accAny_eq];rfl
theorem any_yes {p:Rx→Bool} {l:List Rx} {i:Nat} (h:i<l.length) (hv:p (l.getD i default)=true):l.any p=true :=
  List.any_eq_true.2 ⟨_,kid_mem h,hv⟩

theorem all_not_any {p:Rx→Bool} (l:List Rx):l.all p=!(l.any fun x=>!p x):=by
  induction l with
  | nil=>rfl
  | cons x l ih=>rw [List.all_cons,List.any_cons,ih];cases p x<;>cases l.any _<;>rfl
theorem validR_01 {r:Rx} (h:r.kind=0∨r.kind=1):validR r=(decide (r.syms.length=0)&&decide (r.kids.length=0)):=by
  rw [validR_eq,if_neg (by omega),if_neg (by omega)]
  by_cases h1:r.syms.length=0<;>by_cases h2:r.kids.length=0
  · rw [if_neg (by omega),decide_eq_true h1,decide_eq_true h2,validRs_all,List.length_eq_zero_iff.1 h2];rfl
  · rw [if_pos (by omega),decide_eq_false h2,Bool.and_false]
  · rw [if_pos (by omega),decide_eq_false h1,Bool.false_and]
  · rw [if_pos (by omega),decide_eq_false h1,Bool.false_and]
theorem validR_2 {r:Rx} (h:r.kind=2):validR r=(decide (r.kids.length=0)&&setOk r.syms):=by
  rw [validR_eq,if_neg (by omega),if_pos h,Bool.and_comm]
theorem validR_5 {r:Rx} (h:r.kind=5):validR r=(decide (r.syms.length=0)&&(decide (r.kids.length=1)&&validR (r.kids.getD 0 default))):=by
  rw [validR_eq,if_neg (by omega),if_neg (by omega)]
  by_cases h1:r.syms.length=0<;>by_cases h2:r.kids.length=1
  · rw [if_neg (by omega), decide_eq_true h1, decide_eq_true h2, validRs_all]
    obtain ⟨x,hx⟩:=List.length_eq_one_iff.1 h2
    rw [hx];simp
  · rw [if_pos (by omega),decide_eq_false h2,Bool.false_and,Bool.and_false]
  · rw [if_pos (by omega),decide_eq_false h1,Bool.false_and]
  · rw [if_pos (by omega),decide_eq_false h1,Bool.false_and]
theorem validR_34 {r:Rx} (h:r.kind=3∨r.kind=4):validR r=(decide (r.syms.length=0)&&!(r.kids.any fun x=>!validR x)):=by
  rw [validR_eq,if_neg (by omega),if_neg (by omega)]
  by_cases h1:r.syms.length=0
  · rw [if_neg (by omega),decide_eq_true h1,validRs_all,all_not_any,Bool.true_and]
  · rw [if_pos (by omega),decide_eq_false h1,Bool.false_and]
theorem validR_no {r:Rx} (h:r.kind<0∨5<r.kind):validR r=false:=by rw [validR_eq,if_pos h]
end Go.Wb

namespace Go.Wb
open Go.Am
abbrev noneRx:Rx:=.mk 0 [] []
abbrev emptyRx:Rx:=.mk 1 [] []
theorem take_succ' {α:Type} [Inhabited α] {l:List α} {i:Nat} (h:i<l.length):l.take (i+1)=l.take i++[l.getD i default]:=by
  rw [List.take_add_one,List.getD_eq_getElem?_getD,List.getElem?_eq_getElem h];rfl
def seqF (x:Rx):List Rx:=if x.kind=3 then x.kids else if x.kind=1 then [] else [x]
def seqL (l:List Rx):List Rx:=l.flatMap seqF
theorem seqL_succ {l:List Rx} {i:Nat} (h:i<l.length):seqL (l.take (i+1))=seqL (l.take i)++seqF (l.getD i default):=by
  rw [take_succ' h,seqL,List.flatMap_append];simp [seqL]
theorem seqF_len (x:Rx):(seqF x).length≤x.size:=by
  unfold seqF;have:=kids_len x;have:=size_pos x
  split
  · omega
  · split<;>simp<;>omega
theorem seqL_len:∀ l:List Rx,(seqL l).length≤Rx.sizes l
  | []=>Nat.zero_le _
  | x :: l => by
    have:=seqL_len l
    have:=seqF_len x
    rw [Rx.sizes];simp only [seqL,List.flatMap_cons,List.length_append] at *;omega
theorem sizes_append:∀ (l m:List Rx),Rx.sizes (l++m)=Rx.sizes l+Rx.sizes m
  | [],m=>by rw [List.nil_append,Rx.sizes,Nat.zero_add]
  | x :: l,m=>by rw [List.cons_append,Rx.sizes,Rx.sizes,sizes_append l m];omega
theorem sizes_take_drop (l:List Rx) (i:Nat):Rx.sizes (l.take i)+Rx.sizes (l.drop i)=Rx.sizes l:=by
  rw [← sizes_append,List.take_append_drop]
theorem seqL_room {l:List Rx} {i:Nat} (h:i<l.length):(seqL (l.take i)).length+(l.getD i default).kids.length+1≤Rx.sizes l:=by
  have h1:=seqL_len (l.take i)
  have h2:=sizes_take_drop l i
  have h3:=sizes_step h
  have h4:=kids_len (l.getD i default)
  omega
theorem seqF_3 {x:Rx} (h:x.kind=3):seqF x=x.kids:=if_pos h
theorem seqF_1 {x:Rx} (h:x.kind=1):seqF x=[]:=by unfold seqF;rw [if_neg (by omega),if_pos h]
theorem seqF_x {x:Rx} (h:x.kind≠3) (h1:x.kind≠1):seqF x=[x]:=by unfold seqF;rw [if_neg h,if_neg h1]
def seqE (k:List Rx):Rx:=if k.length=0 then emptyRx else if k.length=1 then k.getD 0 default else .mk 3 [] k
def seqN (l:List Rx):Rx:=if l.any (fun x=>decide (x.kind=0)) then noneRx else seqE (seqL l)
theorem seqN_none {l:List Rx} {i:Nat} (h:i<l.length) (hk:(l.getD i default).kind=0):seqN l=noneRx:=by
  unfold seqN;rw [if_pos (any_yes h (decide_eq_true hk))]
theorem seqN_some {l:List Rx} (h:∀ j,j<l.length→(l.getD j default).kind≠0):seqN l=seqE (seqL l):=by
  unfold seqN;rw [any_no (p:=fun x:Rx=>decide (x.kind=0)) (l:=l) fun j hj=>decide_eq_false (h j hj)];rfl
theorem seqE_0 {k:List Rx} (h:k.length=0):seqE k=emptyRx:=if_pos h
theorem seqE_1 {k:List Rx} (h:k.length=1):seqE k=k.getD 0 default:=by unfold seqE;rw [if_neg (by omega),if_pos h]
theorem seqE_2 {k:List Rx} (h:k.length≠0) (h1:k.length≠1):seqE k=.mk 3 [] k:=by unfold seqE;rw [if_neg h,if_neg h1]
theorem rx_mk (k:Int) (s:List Int) (l:List Rx):rx (.mk k s l)=.agg [int k,ints s,rxs l]:=rx_eq _
def starB (x:Rx):Rx:=if x.kind=4∧(x.kids.getD 0 default).kind=1 then (if x.kids.length=2 then x.kids.getD 1 default else .mk x.kind x.syms (x.kids.drop 1)) else x
def starN (x:Rx):Rx:=if x.kind=0∨x.kind=1 then emptyRx else if x.kind=5 then x else .mk 5 [] [starB x]
def orI:List Int→Int
  | []=>0
  | x :: l=>thn x (orI l)
theorem orI_step {l:List Int} {k:Nat} (h:k<l.length):orI (l.drop k)=thn (l.getD k default) (orI (l.drop (k+1))):=by rw [drop_cons h];rfl
theorem orderI_nn (x:Int):orderI x x=0:=by unfold orderI;rw [if_neg (by omega),if_neg (by omega)]
theorem orderI_lt {x y:Int} (h:x<y):orderI x y=-1:=if_pos h
theorem orderI_gt {x y:Int} (h:y<x):orderI x y=1:=by unfold orderI;rw [if_neg (by omega),if_pos h]
theorem cmpR_or (a b:Rx):orI [orderI a.kind b.kind,orderL a.syms b.syms,cmpRs a.kids b.kids]=cmpR a b:=by
  rw [cmpR_eq];unfold orI orI orI orI thn;repeat' split
  all_goals first|rfl|(simp_all;done)|omega
end Go.Wb

namespace Go.Wb
open Go.Am
def cptN {α:Type} [Inhabited α] (eq:α→α→Bool) (l:List α):Nat→List α
  | 0=>[]
  | i+1=>if 0<i∧eq (l.getD i default) (l.getD (i-1) default)=true then cptN eq l i else cptN eq l i++[l.getD i default]
def cpt {α:Type} [Inhabited α] (eq:α→α→Bool) (l:List α):List α:=cptN eq l l.length
section
variable {α:Type} [Inhabited α] {eq:α→α→Bool} {l:List α}
theorem cptN_len (i:Nat):(cptN eq l i).length≤i:=by
  induction i with
  | zero=>exact Nat.le_refl _
  | succ i ih =>
    rw [cptN]
    split
    · omega
    · rw [List.length_append,List.length_singleton];omega
theorem cptN_dup {i:Nat} (h0:0<i) (h:eq (l.getD i default) (l.getD (i-1) default)=true):cptN eq l (i+1)=cptN eq l i:=by rw [cptN,if_pos ⟨h0,h⟩]
theorem cptN_new {i:Nat} (h:eq (l.getD i default) (l.getD (i-1) default)=false):cptN eq l (i+1)=cptN eq l i++[l.getD i default]:=by
  rw [cptN,if_neg (fun q=>by rw [h] at q;exact absurd q.2 (by decide))]
theorem cptN_one:cptN eq l 1=[l.getD 0 default]:=by rw [cptN,if_neg (by omega)];rfl
theorem cpt_short (h:l.length<2):cpt eq l=l:=by
  match l,h with
  | [],_=>rfl
  | [x],_=>exact cptN_one
theorem cptN_take {i:Nat} (hi:i<l.length) (h:cptN eq l i=l.take i) (hn:eq (l.getD i default) (l.getD (i-1) default)=false):cptN eq l (i+1)=l.take (i+1):=by
  rw [cptN_new hn,h,take_succ' hi]
theorem getD_set_eq {ys:List α} {k:Nat} {v:α} (h:k<ys.length):(ys.set k v).getD k default=v:=by
  rw [List.getD_eq_getElem?_getD,List.getElem?_set_self h];rfl
theorem getD_set_ne' {ys:List α} {k j:Nat} {v:α} (h:k≠j):(ys.set k v).getD j default=ys.getD j default:=by
  rw [List.getD_eq_getElem?_getD,List.getElem?_set_ne h,List.getD_eq_getElem?_getD]
theorem take_set_succ {ys:List α} {k:Nat} {v:α} (h:k<ys.length):(ys.set k v).take (k+1)=ys.take k++[v]:=by
  rw [take_succ' (by simpa using h),getD_set_eq h,List.take_set_of_le (Nat.le_refl _)]
theorem cpt_put {ys:List α} {k q j:Nat} (hk:k<ys.length) (h:cptN eq l (q+j)=ys.take k) (hn:eq (l.getD (q+j) default) (l.getD (q+j-1) default)=false):cptN eq l (q+(j+1))=(ys.set k (l.getD (q+j) default)).take (k+1):=by
  rw [← Nat.add_assoc,cptN_new hn,h,take_set_succ hk]
theorem cpt_skip {ys:List α} {k q j:Nat} (h0:0<q+j) (h:cptN eq l (q+j)=ys.take k) (hn:eq (l.getD (q+j) default) (l.getD (q+j-1) default)=true):cptN eq l (q+(j+1))=ys.take k:=by
  rw [← Nat.add_assoc,cptN_dup h0 hn,h]
theorem cpt_fin {f:α→AV} {ys:List α} {X:List AV} {k n:Nat} (hk:k≤ys.length) (hn:n=l.length) (h:cptN eq l n=ys.take k):((ys.map f).take k++X).take k=(cpt eq l).map f:=by
  subst hn
  rw [List.take_append_of_le_length (by simp;omega),List.take_take,Nat.min_self,← List.map_take,← h];rfl
theorem cpt_all {n:Nat} (hn:n=l.length) (h:cptN eq l n=l.take n):cpt eq l=l:=by
  subst hn;unfold cpt;rw [h,List.take_length]
end
def altF (x:Rx):List Rx:=if x.kind=4 then x.kids else [x]
def altL (l:List Rx):List Rx:=l.flatMap altF
def putS (s:List Int) (x:Rx):List Int:=if x.kind=2 then s++x.syms else s
def putK (k:List Rx) (x:Rx):List Rx:=if x.kind=0∨x.kind=2 then k else k++[x]
def putSs (l:List Rx):List Int:=l.foldl putS []
def putKs (l:List Rx):List Rx:=l.foldl putK []
theorem altL_succ {l:List Rx} {i:Nat} (h:i<l.length):altL (l.take (i+1))=altL (l.take i)++altF (l.getD i default):=by
  rw [take_succ' h,altL,List.flatMap_append];simp [altL]
theorem get_lastm {α:Type} (f:α→AV) (l:List α) (z:AV):(l.map f++[z])[l.length]?=some z:=by
  rw [List.getElem?_append_right (by simp)];simp
theorem set_last {α:Type} {f:α→AV} {l:List α} {z:AV} {v:α}:(l.map f++[z]).set l.length (f v)=(l++[v]).map f:=by
  rw [List.set_append_right _ _ (by simp),List.length_map,Nat.sub_self,List.map_append];rfl
theorem putS_2 {s:List Int} {x:Rx} (h:x.kind=2):putS s x=s++x.syms:=if_pos h
theorem putS_x {s:List Int} {x:Rx} (h:x.kind≠2):putS s x=s:=if_neg h
theorem putK_0 {k:List Rx} {x:Rx} (h:x.kind=0∨x.kind=2):putK k x=k:=if_pos h
theorem putK_x {k:List Rx} {x:Rx} (h:¬ (x.kind=0∨x.kind=2)):putK k x=k++[x]:=if_neg h
end Go.Wb

namespace Go.Wb
open Go.Am
theorem orderI_neg (a b : Int) : orderI b a = - orderI a b := by unfold orderI; repeat' split
                                                                 all_goals omega
theorem orderI_zero {a b : Int} (h : orderI a b = 0) : a = b := by unfold orderI at h; repeat' split at h
                                                                   all_goals omega
theorem orderI_trans {a b c:Int} (h:orderI a b<0) (h':orderI b c<0):orderI a c<0:=by
  unfold orderI at *
  have h1:a<b:=by
    by_cases q:a<b
    · exact q
    · rw [if_neg q] at h;split at h<;>omega
  have h2:b<c:=by
    by_cases q:b<c
    · exact q
    · rw [if_neg q] at h';split at h'<;>omega
  rw [if_pos (by omega)];decide
theorem thn_neg {a b c d:Int} (h:b=-a) (h':d=-c):thn b d=- thn a c:=by
  unfold thn;subst h;subst h'
  by_cases q:a=0
  · rw [if_pos (by omega),if_pos q]
  · rw [if_neg (by omega),if_neg q]
theorem thn_zeros {a b:Int} (h:thn a b=0):a=0∧b=0:=by
  unfold thn at h
  by_cases q:a=0
  · rw [if_pos q] at h;exact ⟨q,h⟩
  · rw [if_neg q] at h;exact absurd h q
theorem thn_trans {α β:Type} {f:α→α→Int} {g:β→β→Int} {a b c:α} {x y z:β} (hz:∀ a b,f a b=0→a=b) (hft:f a b<0→f b c<0→f a c<0) (hgt:g x y<0→g y z<0→g x z<0)
    (h:thn (f a b) (g x y)<0) (h':thn (f b c) (g y z)<0):thn (f a c) (g x z)<0:=by
  unfold thn at *
  by_cases q1:f a b=0
  · have := hz _ _ q1
    subst this
    rw [if_pos q1] at h
    by_cases q2:f a c=0
    · rw [if_pos q2] at h' ⊢;exact hgt h h'
    · rw [if_neg q2] at h' ⊢;exact h'
  · rw [if_neg q1] at h
    by_cases q2:f b c=0
    · have := hz _ _ q2
      subst this
      rw [if_neg q1];exact h
    · rw [if_neg q2] at h'
      have:=hft h h'
      rw [if_neg (by omega)];exact this
theorem orderL_neg:∀ a b:List Int,orderL b a=- orderL a b
  | [],[]=>rfl
  | [],_ :: _=>rfl
  | _ :: _,[]=>rfl
  | x :: xs,y :: ys=>thn_neg (orderI_neg x y) (orderL_neg xs ys)
theorem orderL_zero:∀ a b:List Int,orderL a b=0→a=b
  | [],[],_=>rfl
  | [],_ :: _,h=>absurd (show (-1:Int)=0 from h) (by decide)
  | _ :: _,[],h=>absurd (show (1:Int)=0 from h) (by decide)
  | x :: xs, y :: ys, h => by
    obtain ⟨h1,h2⟩:=thn_zeros h
    rw [orderI_zero h1,orderL_zero xs ys h2]
theorem orderL_trans:∀ a b c:List Int,orderL a b<0→orderL b c<0→orderL a c<0
  | [],[],c,h,_=>absurd h (by decide)
  | _ :: _,[],c,h,_=>absurd (show (1:Int)<0 from h) (by decide)
  | a,_ :: _,[],_,h=>absurd (show (1:Int)<0 from h) (by decide)
  | [],_ :: _,_ :: _,_,_=>show (-1:Int)<0 by decide
  | x :: xs,y :: ys,z :: zs,h,h'=>thn_trans (f:=orderI) (g:=orderL) (fun _ _=>orderI_zero) orderI_trans (orderL_trans xs ys zs) h h'
mutual
theorem cmpR_neg:∀ a b:Rx,cmpR b a=- cmpR a b
  | .mk k s l, .mk k' s' l' => by
    rw [cmpR,cmpR]
    exact thn_neg (orderI_neg k k') (thn_neg (orderL_neg s s') (cmpRs_neg l l'))
theorem cmpRs_neg:∀ a b:List Rx,cmpRs b a=- cmpRs a b
  | [],[]=>by rw [cmpRs];rfl
  | [],_ :: _=>by rw [cmpRs,cmpRs];rfl
  | _ :: _,[]=>by rw [cmpRs,cmpRs]
  | x :: xs, y :: ys => by
    rw [cmpRs,cmpRs]
    exact thn_neg (cmpR_neg x y) (cmpRs_neg xs ys)
end
mutual
theorem cmpR_zero:∀ a b:Rx,cmpR a b=0→a=b
  | .mk k s l, .mk k' s' l', h => by
    rw [cmpR] at h
    obtain ⟨h1,h2⟩:=thn_zeros h
    obtain ⟨h2,h3⟩:=thn_zeros h2
    rw [orderI_zero h1,orderL_zero _ _ h2,cmpRs_zero _ _ h3];rfl
theorem cmpRs_zero:∀ a b:List Rx,cmpRs a b=0→a=b
  | [],[],_=>rfl
  | [],_ :: _,h=>by rw [cmpRs] at h;exact absurd h (by decide)
  | _ :: _,[],h=>by rw [cmpRs] at h;exact absurd h (by decide)
  | x :: xs, y :: ys, h => by
    rw [cmpRs] at h
    obtain ⟨h1,h2⟩:=thn_zeros h
    rw [cmpR_zero x y h1,cmpRs_zero xs ys h2]
end
mutual
theorem cmpR_trans:∀ a b c:Rx,cmpR a b<0→cmpR b c<0→cmpR a c<0
  | .mk k s l, .mk k' s' l', .mk k'' s'' l'', h, h' => by
    rw [cmpR] at h h' ⊢
    refine thn_trans (f:=orderI) (g:=fun (p q:List Int×List Rx)=>thn (orderL p.1 q.1) (cmpRs p.2 q.2)) (x:=(s,l)) (y:=(s',l')) (z:=(s'',l'')) (fun _ _=>orderI_zero) orderI_trans ?_ h h'
    exact fun g g'=>thn_trans (f:=orderL) (g:=cmpRs) orderL_zero (orderL_trans _ _ _) (cmpRs_trans l l' l'') g g'
theorem cmpRs_trans:∀ a b c:List Rx,cmpRs a b<0→cmpRs b c<0→cmpRs a c<0
  | [],[],c,h,_=>by rw [cmpRs] at h;exact absurd h (by decide)
  | _ :: _,[],c,h,_=>by rw [cmpRs] at h;exact absurd h (by decide)
  | a,_ :: _,[],_,h=>by rw [cmpRs] at h;exact absurd h (by decide)
  | [],_ :: _,_ :: _,_,_=>by rw [cmpRs];decide
  | x :: xs, y :: ys, z :: zs, h, h' => by
    rw [cmpRs] at h h' ⊢
    exact thn_trans (f:=cmpR) (g:=cmpRs) cmpR_zero (cmpR_trans x y z) (cmpRs_trans xs ys zs) h h'
end
theorem cmpR_self (a:Rx):cmpR a a=0:=by have:=cmpR_neg a a;omega
theorem cmpR_irr (a:Rx):¬ cmpR a a<0:=by rw [cmpR_self];decide
theorem cmpR_tot {a b:Rx} (h:¬ cmpR a b<0) (h':¬ cmpR b a<0):a=b:=cmpR_zero a b (by have:=cmpR_neg a b;omega)

def altS (l:List Rx):List Int:=putSs (altL l)
def altK (l:List Rx):List Rx:=putKs (altL l)
section
variable {α:Type} {le:α→α→Bool}
def insB (le:α→α→Bool) (x:α):List α→List α
  | []=>[x]
  | y :: l=>if le x y=true then x :: y :: l else y :: insB le x l
def isortB (le:α→α→Bool):List α→List α
  | []=>[]
  | x :: l=>insB le x (isortB le l)
theorem insB_perm (x:α):∀ l:List α,(insB le x l).Perm (x :: l)
  | []=>.refl _
  | y :: l => by
    rw [insB]
    split
    · exact .refl _
    · exact ((insB_perm x l).cons y).trans (.swap x y l)
theorem isort_perm:∀ l:List α,(isortB le l).Perm l
  | []=>.refl _
  | x :: l=>(insB_perm x _).trans ((isort_perm l).cons x)
theorem insB_pw (tr:∀ a b c,le a b=true→le b c=true→le a c=true) (to:∀ a b,(le a b||le b a)=true) (x:α):∀ {l:List α},(l.Pairwise fun x y=>le x y=true)→(insB le x l).Pairwise fun x y=>le x y=true
  | [],_=>List.pairwise_singleton _ _
  | y :: l, h => by
    have h':=List.pairwise_cons.1 h
    rw [insB]
    split
    · next hxy=>exact List.pairwise_cons.2 ⟨fun z hz=>(List.mem_cons.1 hz).elim (fun e=>by rw [e];exact hxy) fun hz=>tr _ _ _ hxy (h'.1 z hz),h⟩
    · next hxy =>
      have hyx:le y x=true:=by have:=to x y;rw [Bool.or_eq_true] at this;exact this.elim (fun q=>absurd q hxy) id
      refine List.pairwise_cons.2 ⟨fun z hz=>?_,insB_pw tr to x h'.2⟩
      rcases List.mem_cons.1 ((insB_perm x l).mem_iff.1 hz) with e|hz
      · rw [e];exact hyx
      · exact h'.1 z hz
theorem isort_pw (tr:∀ a b c,le a b=true→le b c=true→le a c=true) (to:∀ a b,(le a b||le b a)=true):∀ l:List α,(isortB le l).Pairwise fun x y=>le x y=true
  | []=>.nil
  | x :: l=>insB_pw tr to x (isort_pw tr to l)
theorem perm_sorted (an : ∀ a b, le a b = true → le b a = true → a = b) : ∀ {l m : List α}, l.Perm m → (l.Pairwise fun x y => le x y = true) → (m.Pairwise fun x y => le x y = true) → l = m
  | [],m,h,_,_=>(List.nil_perm.1 h).symm
  | x :: l,[],h,_,_=>absurd h.length_eq (by simp)
  | x :: l, y :: m, h, h1, h2 => by
    have h1':=List.pairwise_cons.1 h1
    have h2':=List.pairwise_cons.1 h2
    have e:x=y:=by
      rcases List.mem_cons.1 (h.mem_iff.1 List.mem_cons_self) with q|q
      · exact q
      · rcases List.mem_cons.1 (h.mem_iff.2 List.mem_cons_self) with q' | q'
        · exact q'.symm
        · exact an _ _ (h1'.1 y q') (h2'.1 x q)
    subst e
    rw [perm_sorted an (List.Perm.cons_inv h) h1'.2 h2'.2]
theorem isort_merge (tr:∀ a b c,le a b=true→le b c=true→le a c=true) (to:∀ a b,(le a b||le b a)=true) (an:∀ a b,le a b=true→le b a=true→a=b) (l:List α):l.mergeSort le=isortB le l :=
  perm_sorted an ((List.mergeSort_perm l le).trans (isort_perm l).symm) (List.pairwise_mergeSort tr to l) (isort_pw tr to l)
end
abbrev leR (x y:Rx):Bool:=!decide (cmpR y x<0)
abbrev leI (x y:Int):Bool:=decide (x≤y)
def sortI (s:List Int):List Int:=isortB leI s
def sortR (k:List Rx):List Rx:=isortB leR k
theorem leR_iff {x y:Rx}:leR x y=true↔cmpR x y≤0:=by
  have:=cmpR_neg x y;show (!decide (cmpR y x<0))=true↔_;rw [Bool.not_eq_true',decide_eq_false_iff_not];omega
theorem leR_an (a b:Rx) (h:leR a b=true) (h':leR b a=true):a=b:=cmpR_zero _ _ (by have:=leR_iff.1 h;have:=leR_iff.1 h';have:=cmpR_neg a b;omega)
theorem leR_tr (a b c:Rx) (h:leR a b=true) (h':leR b c=true):leR a c=true:=by
  rw [leR_iff] at *
  by_cases h1:cmpR a b=0
  · rw [cmpR_zero _ _ h1];exact h'
  · by_cases h2 : cmpR b c = 0
    · rw [← cmpR_zero _ _ h2];exact h
    · exact Int.le_of_lt (cmpR_trans a b c (by omega) (by omega))
theorem leR_to (a b:Rx):(leR a b||leR b a)=true:=by
  rw [Bool.or_eq_true,leR_iff,leR_iff];have:=cmpR_neg a b;omega
theorem leI_an (a b:Int) (h:leI a b=true) (h':leI b a=true):a=b:=by have:=of_decide_eq_true h;have:=of_decide_eq_true h';omega
theorem leI_tr (a b c:Int) (h:leI a b=true) (h':leI b c=true):leI a c=true:=by have:=of_decide_eq_true h;have:=of_decide_eq_true h';exact decide_eq_true (by omega)
theorem leI_to (a b:Int):(leI a b||leI b a)=true:=by rw [Bool.or_eq_true,decide_eq_true_eq,decide_eq_true_eq];omega
theorem sortR_merge (k:List Rx):(k.mergeSort fun x y=>!decide (cmpR y x<0))=sortR k:=isort_merge leR_tr leR_to leR_an k
theorem sortI_merge (s:List Int):(s.mergeSort fun x y=>decide (x≤y))=sortI s:=isort_merge leI_tr leI_to leI_an s
abbrev eqI (x y:Int):Bool:=decide (x=y)
abbrev eqR (x y:Rx):Bool:=decide (cmpR x y=0)
def altM (s:List Int) (k:List Rx):List Rx:=if 0<s.length then k++[.mk 2 (cpt eqI (sortI s)) []] else k
def altD (l:List Rx):List Rx:=cpt eqR (sortR (altM (altS l) (altK l)))
def altC (k:List Rx):List Rx:=if 1<k.length∧(k.getD 0 default).kind=1∧(k.drop 1).any accR=true then k.drop 1 else k
def altE (k:List Rx):Rx:=if k.length=0 then noneRx else if k.length=1 then k.getD 0 default else .mk 4 [] k
def altN (l:List Rx):Rx:=altE (altC (altD l))
theorem altE_0 {k:List Rx} (h:k.length=0):altE k=noneRx:=if_pos h
theorem altE_1 {k:List Rx} (h:k.length=1):altE k=k.getD 0 default:=by unfold altE;rw [if_neg (by omega),if_pos h]
theorem altE_2 {k:List Rx} (h:k.length≠0) (h1:k.length≠1):altE k=.mk 4 [] k:=by unfold altE;rw [if_neg h,if_neg h1]
theorem altC_t {k:List Rx} (h:1<k.length) (h1:(k.getD 0 default).kind=1) (h2:(k.drop 1).any accR=true):altC k=k.drop 1:=if_pos ⟨h,h1,h2⟩
theorem altC_f {k:List Rx} (h:¬ (1<k.length∧(k.getD 0 default).kind=1∧(k.drop 1).any accR=true)):altC k=k:=if_neg h
theorem altM_t {s:List Int} {k:List Rx} (h:0<s.length):altM s k=k++[.mk 2 (cpt eqI (sortI s)) []]:=if_pos h
theorem altM_f {s:List Int} {k:List Rx} (h:¬ 0<s.length):altM s k=k:=if_neg h
theorem altF_4 {x:Rx} (h:x.kind=4):altF x=x.kids:=if_pos h
theorem altF_x {x:Rx} (h:x.kind≠4):altF x=[x]:=if_neg h
theorem putSs_app (l:List Rx) (x:Rx):putSs (l++[x])=putS (putSs l) x:=by unfold putSs;rw [List.foldl_append];rfl
theorem putKs_app (l:List Rx) (x:Rx):putKs (l++[x])=putK (putKs l) x:=by unfold putKs;rw [List.foldl_append];rfl
theorem putSs_kid {m l:List Rx} {j:Nat} (h:j<l.length):putSs (m++l.take (j+1))=putS (putSs (m++l.take j)) (l.getD j default):=by
  rw [take_succ' h,← List.append_assoc,putSs_app]
theorem putKs_kid {m l:List Rx} {j:Nat} (h:j<l.length):putKs (m++l.take (j+1))=putK (putKs (m++l.take j)) (l.getD j default):=by
  rw [take_succ' h,← List.append_assoc,putKs_app]
def putsB (l:List Rx):Nat:=(putSs l).length+Rx.sizes (putKs l)
theorem puts_len (l : List Rx) : ∀ m : List Rx, (putSs (m ++ l)).length + Rx.sizes (putKs (m ++ l)) ≤ (putSs m).length + Rx.sizes (putKs m) + Rx.sizes l := by
  induction l with
  | nil=>intro m;rw [List.append_nil];omega
  | cons x l ih =>
    intro m
    have h:=ih (m++[x])
    rw [List.append_assoc,List.singleton_append,putSs_app,putKs_app] at h
    rw [Rx.sizes]
    have h1:(putS (putSs m) x).length+Rx.sizes (putK (putKs m) x)≤(putSs m).length+Rx.sizes (putKs m)+x.size:=by
      unfold putS putK
      have:=syms_len x
      by_cases h2:x.kind=2
      · rw [if_pos h2,if_pos (.inr h2),List.length_append];omega
      · rw [if_neg h2]
        split
        · omega
        · rw [sizes_append,Rx.sizes,Rx.sizes];omega
    omega
theorem puts_bd (l:List Rx):(putSs l).length+Rx.sizes (putKs l)≤Rx.sizes l:=by
  have:=puts_len l []
  rw [List.nil_append] at this
  have h1:(putSs []).length+Rx.sizes (putKs [])=0:=by rfl
  omega
theorem sizes_altL:∀ l:List Rx,Rx.sizes (altL l)≤Rx.sizes l
  | []=>Nat.le_refl _
  | x :: l => by
    have:=sizes_altL l
    have e:altL (x :: l)=altF x++altL l:=rfl
    rw [e,sizes_append,Rx.sizes]
    have h:Rx.sizes (altF x)≤x.size:=by
      unfold altF
      split
      · rw [size_eq];omega
      · rw [Rx.sizes,Rx.sizes];omega
    omega
theorem sizes_take_le (l:List Rx) (i:Nat):Rx.sizes (l.take i)≤Rx.sizes l:=by have:=sizes_take_drop l i;omega
theorem sizes_perm {l m:List Rx} (h:l.Perm m):Rx.sizes l=Rx.sizes m:=by
  induction h with
  | nil=>rfl
  | cons x _ ih=>rw [Rx.sizes,Rx.sizes,ih]
  | swap x y l=>rw [Rx.sizes,Rx.sizes,Rx.sizes,Rx.sizes];omega
  | trans _ _ h1 h2=>omega
theorem cptN_mem {α : Type} [Inhabited α] {eq : α → α → Bool} {l : List α} {x : α} : ∀ i, i ≤ l.length → x ∈ cptN eq l i → x ∈ l := by
  intro i
  induction i with
  | zero=>intro _ h;cases h
  | succ i ih =>
    intro hi h
    rw [cptN] at h
    split at h
    · exact ih (by omega) h
    · rcases List.mem_append.1 h with h | h
      · exact ih (by omega) h
      · rw [List.mem_singleton] at h
        subst h
        rw [List.getD_eq_getElem?_getD,List.getElem?_eq_getElem (by omega)]
        exact List.getElem_mem (by omega)
theorem cpt_mem {α:Type} [Inhabited α] {eq:α→α→Bool} {l:List α} {x:α} (h:x∈cpt eq l):x∈l:=cptN_mem _ (Nat.le_refl _) h
theorem cpt_len {α:Type} [Inhabited α] {eq:α→α→Bool} {l:List α}:(cpt eq l).length≤l.length:=cptN_len _
abbrev rxc (r:Rx):List AV:=[int r.kind,ints r.syms,.sl (Rx.avs r.kids)]
theorem alt_bd (l:List Rx):(altS l).length+Rx.sizes (altK l)≤Rx.sizes l:=Nat.le_trans (puts_bd _) (sizes_altL l)
theorem sortI_len (s:List Int):(sortI s).length=s.length:=(isort_perm s).length_eq
theorem sortR_len (k:List Rx):(sortR k).length=k.length:=(isort_perm k).length_eq
theorem sortR_mem {k:List Rx} {x:Rx}:x∈sortR k↔x∈k:=(isort_perm k).mem_iff
theorem altM_sizes (s:List Int) (k:List Rx):Rx.sizes (altM s k)≤1+s.length+Rx.sizes k:=by
  unfold altM
  split
  · rw [sizes_append, Rx.sizes, Rx.sizes, Rx.size, Rx.sizes]
    have:=cpt_len (eq:=eqI) (l:=sortI s)
    rw [sortI_len] at this
    omega
  · omega
theorem altD_mem {l:List Rx} {x:Rx} (h:x∈altD l):x∈altM (altS l) (altK l):=sortR_mem.1 (cpt_mem h)
end Go.Wb

namespace Go.Wb
open Go.Am
theorem starN_e {x:Rx} (h:x.kind=0∨x.kind=1):starN x=emptyRx:=if_pos h
theorem starN_5 {x:Rx} (h:x.kind=5):starN x=x:=by unfold starN;rw [if_neg (by omega),if_pos h]
theorem starN_x {x:Rx} (h:¬ (x.kind=0∨x.kind=1)) (h5:x.kind≠5):starN x=.mk 5 [] [starB x]:=by unfold starN;rw [if_neg h,if_neg h5]
theorem starB_n {x:Rx} (h:¬ (x.kind=4∧(x.kids.getD 0 default).kind=1)):starB x=x:=if_neg h
theorem starB_2 {x:Rx} (h:x.kind=4∧(x.kids.getD 0 default).kind=1) (h2:x.kids.length=2):starB x=x.kids.getD 1 default:=by unfold starB;rw [if_pos h,if_pos h2]
theorem starB_m {x:Rx} (h:x.kind=4∧(x.kids.getD 0 default).kind=1) (h2:x.kids.length≠2):starB x=.mk x.kind x.syms (x.kids.drop 1):=by unfold starB;rw [if_pos h,if_neg h2]
theorem getD_drop1 {α:Type} [Inhabited α] {l:List α}:(l.drop 1).getD 0 default=l.getD 1 default:=by cases l<;>simp
theorem rxs_one (y:Rx):rxs [y]=.sl [rx y]:=rfl
theorem rx_mk' (x:Rx) (l:List Rx):rx (.mk x.kind x.syms l)=.agg [int x.kind,ints x.syms,rxs l]:=rx_eq _
mutual
def buildR (t:Bool):Rx→Rx
  | .mk k s l=>if k=3 then seqN (if t then (buildRs t l).reverse else buildRs t l) else if k=4 then altN (buildRs t l) else if k=5 then starN ((buildRs t l).getD 0 default) else .mk k s []
def buildRs (t:Bool):List Rx→List Rx
  | []=>[]
  | x :: l=>buildR t x :: buildRs t l
end
theorem buildRs_map (t:Bool):∀ l:List Rx,buildRs t l=l.map (buildR t)
  | []=>by rw [buildRs];rfl
  | x :: l=>by rw [buildRs,buildRs_map t l];rfl
theorem buildR_eq (t:Bool) (r:Rx):buildR t r=if r.kind=3 then seqN (if t then (r.kids.map (buildR t)).reverse else r.kids.map (buildR t)) else if r.kind=4 then altN (r.kids.map (buildR t)) else
    if r.kind=5 then starN ((r.kids.map (buildR t)).getD 0 default) else .mk r.kind r.syms []:=by
  cases r with|mk k s l=>rw [buildR,buildRs_map];rfl
theorem buildR_3f {r:Rx} (h:r.kind=3):buildR false r=seqN (r.kids.map (buildR false)):=by rw [buildR_eq,if_pos h];rfl
theorem buildR_3t {r:Rx} (h:r.kind=3):buildR true r=seqN (r.kids.map (buildR true)).reverse:=by rw [buildR_eq,if_pos h];rfl
theorem buildR_3y {t:Bool} {r:Rx} (h:r.kind=3) (ht:t=true):buildR t r=seqN (r.kids.map (buildR t)).reverse:=by rw [ht];exact buildR_3t h
theorem buildR_3n {t:Bool} {r:Rx} (h:r.kind=3) (ht:t=false):buildR t r=seqN (r.kids.map (buildR t)):=by rw [ht];exact buildR_3f h
theorem buildR_4 {t:Bool} {r:Rx} (h:r.kind=4):buildR t r=altN (r.kids.map (buildR t)):=by rw [buildR_eq,if_neg (by omega),if_pos h]
theorem buildR_5 {t:Bool} {r:Rx} (h:r.kind=5):buildR t r=starN ((r.kids.map (buildR t)).getD 0 default):=by rw [buildR_eq,if_neg (by omega),if_neg (by omega),if_pos h]
theorem buildR_x {t:Bool} {r:Rx} (h:r.kind≠3) (h4:r.kind≠4) (h5:r.kind≠5):buildR t r=.mk r.kind r.syms []:=by rw [buildR_eq,if_neg h,if_neg h4,if_neg h5]
theorem getD_map {α β:Type} [Inhabited α] [Inhabited β] {f:α→β} {l:List α} {i:Nat} (h:i<l.length):(l.map f).getD i default=f (l.getD i default):=by
  rw [List.getD_eq_getElem?_getD,List.getElem?_map,List.getD_eq_getElem?_getD,List.getElem?_eq_getElem h];rfl
def Revd {α:Type} [Inhabited α] (l ys:List α) (i:Nat):Prop:=ys.length=l.length∧∀ k,k<l.length→ys.getD k default=if k<i∨l.length≤k+i then l.getD (l.length-1-k) default else l.getD k default
theorem getD_set {α:Type} [Inhabited α] {ys:List α} {k j:Nat} {v:α} (h:k<ys.length):(ys.set k v).getD j default=if k=j then v else ys.getD j default:=by
  split
  · next e=>rw [← e,getD_set_eq h]
  · next e=>rw [getD_set_ne' e]
end Go.Wb

