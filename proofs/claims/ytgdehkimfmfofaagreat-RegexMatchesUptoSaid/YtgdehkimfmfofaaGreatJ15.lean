/-
  DERIVED: THE SHELF's CONTRACTS AT THIS DUMP,IN PLAIN WORDS (tools/lay-plain.mjs out of 'YtgdehkimfmfofaaGreatLay.lean',which tools/lay-shelf.mjs wrote): THE SAME DECLARATIONS UNDER THE SAME NAMES: 'import','namespace','open','def','theorem' AND NOTHING ELSE: no command of the shelf's: FOR A HAND-IN. Each laying: the table of numbers ('.._ren') and one theorem,a field a fact of the dump's own or the kernel's comparison;each contract: ONE APPLICATION.
-/
import Derived.Test.YtgdehkimfmfofaaGreatJ14
import Derived.Test.YtgdehkimfmfofaaGreatJ8
import Derived.Test.YtgdehkimfmfofaaGreatRows
import Derived.Shelf.SlGeneric
import Derived.Shelf.SlSortCmp.NoneTotal
import Derived.Shelf.SortM.Plain
import Derived.Shelf.SortM.SortNone
import Derived.Shelf.Small.Strs
import Derived.Shelf.Strings.Search2
import Derived.Ground.NamesProg
import Derived.Ground.SlsfProg
import Derived.Ground.SlgmProg
import Derived.Ground.SlgnProg
import Derived.Shelf.SlicesQ.Reverse
set_option linter.unusedVariables false
set_option linter.unusedSectionVars false
set_option linter.unusedSimpArgs false
namespace Go.Wb
open Go.Am
def lbI (a:Int) (s:List Int):Nat:=s.findIdx fun x=>decide (a≤x)
theorem lb_is {a:Int} {s:List Int} {i:Nat} (hi:i≤s.length) (h1:∀ k,k<i→s.getD k default<a) (h2:i<s.length→a≤s.getD i default):i=lbI a s:=by
  rcases Nat.lt_or_ge i s.length with h|h
  · refine ((List.findIdx_eq h).2 ⟨?_, fun j hj => ?_⟩).symm
    · have:=h2 h;rw [getD_el h] at this;exact decide_eq_true this
    · have:=h1 j hj;rw [getD_el (by omega)] at this;exact decide_eq_false (by omega)
  · have hi' : i = s.length := by omega
    subst hi'
    refine (List.findIdx_eq_length.2 fun x hx=>?_).symm
    obtain ⟨j,hj,e⟩:=List.getElem_of_mem hx
    have:=h1 j hj
    rw [getD_el hj,e] at this
    exact decide_eq_false (by omega)
theorem lb_yes {a:Int} {s:List Int} {i:Nat} (hi:i<s.length) (h:s.getD i default=a):a∈s:=by rw [← h,getD_el hi];exact List.getElem_mem hi
theorem lb_no {a:Int} {s:List Int} {i:Nat} (hs:Srt leI s) (h1:∀ k,k<i→s.getD k default<a) (h2:i<s.length→a≤s.getD i default) (h:i<s.length→s.getD i default≠a):¬ a∈s:=by
  intro hm
  obtain ⟨j,hj,e⟩:=List.getElem_of_mem hm
  rw [← getD_el hj] at e
  rcases Nat.lt_trichotomy j i with q|q|q
  · have:=h1 j q;omega
  · subst q;exact h hj e
  · have h3 := pair_getD hs q hj
    have h4:=of_decide_eq_true h3.1
    have:=h2 (by omega)
    have:=h3.2
    omega
mutual
def dR (a:Int):Rx→Rx
  | .mk k s l=>if k=2 then (if a∈s then emptyRx else noneRx) else if k=4 then altN (dRs a l) else if k=3 then altN (dRq a l) else if k=5 then seqN [(dRs a l).getD 0 default,.mk k s l] else noneRx
def dRs (a:Int):List Rx→List Rx
  | []=>[]
  | x :: l=>dR a x :: dRs a l
def dRq (a:Int):List Rx→List Rx
  | []=>[]
  | x :: l=>seqN [dR a x,seqN l] :: (if accR x=true then dRq a l else [])
end
theorem dRs_map (a:Int):∀ l:List Rx,dRs a l=l.map (dR a)
  | []=>by rw [dRs];rfl
  | x :: l=>by rw [dRs,dRs_map a l];rfl
theorem dR_eq (a:Int) (r:Rx):dR a r=if r.kind=2 then (if a∈r.syms then emptyRx else noneRx) else if r.kind=4 then altN (r.kids.map (dR a)) else if r.kind=3 then altN (dRq a r.kids) else
    if r.kind=5 then seqN [(r.kids.map (dR a)).getD 0 default,r] else noneRx:=by
  cases r with|mk k s l=>rw [dR,dRs_map];rfl
theorem altN_nil:altN []=noneRx:=by
  rfl
def dL (a:Int) (r:Rx):List Rx:=if r.kind=4 then r.kids.map (dR a) else if r.kind=3 then dRq a r.kids else []
theorem dL_4 {a:Int} {r:Rx} (h:r.kind=4):dL a r=r.kids.map (dR a):=if_pos h
theorem dL_3 {a:Int} {r:Rx} (h:r.kind=3):dL a r=dRq a r.kids:=by unfold dL;rw [if_neg (by omega),if_pos h]
theorem dL_x {a:Int} {r:Rx} (h:r.kind≠4) (h3:r.kind≠3):dL a r=[]:=by unfold dL;rw [if_neg h,if_neg h3]
theorem dR_2 {a:Int} {r:Rx} (h:r.kind=2) (hm:a∈r.syms):dR a r=emptyRx:=by rw [dR_eq,if_pos h,if_pos hm]
theorem dR_5 {a:Int} {r:Rx} (h:r.kind=5):dR a r=seqN [(r.kids.map (dR a)).getD 0 default,r]:=by rw [dR_eq,if_neg (by omega),if_neg (by omega),if_neg (by omega),if_pos h]
theorem dR_5k {a:Int} {r:Rx} (h:r.kind=5) (h0:0<r.kids.length):dR a r=seqN [dR a (r.kids.getD 0 default),r]:=by rw [dR_5 h,getD_map h0]
theorem dR_x {a:Int} {r:Rx} (h5:r.kind≠5) (h2:r.kind=2→¬ a∈r.syms):dR a r=altN (dL a r):=by
  rw [dR_eq]
  by_cases h:r.kind=2
  · rw [if_pos h,if_neg (h2 h),dL_x (by omega) (by omega),altN_nil]
  · rw [if_neg h]
    by_cases h4:r.kind=4
    · rw [if_pos h4,dL_4 h4]
    · rw [if_neg h4]
      by_cases h3:r.kind=3
      · rw [if_pos h3,dL_3 h3]
      · rw [if_neg h3,if_neg h5,dL_x h4 h3,altN_nil]
def dQ (a:Int) (l:List Rx) (i:Nat):Rx:=seqN [dR a (l.getD i default),seqN (l.drop (i+1))]
theorem dRq_drop {a:Int} {l:List Rx} {i:Nat} (h:i<l.length):dRq a (l.drop i)=dQ a l i :: (if accR (l.getD i default)=true then dRq a (l.drop (i+1)) else []):=by
  rw [drop_cons h,dRq];rfl
theorem dRq_upto {a:Int} {l:List Rx}:∀ i,i≤l.length→(∀ j,j<i→accR (l.getD j default)=true)→dRq a l=(List.range i).map (dQ a l)++dRq a (l.drop i)
  | 0,_,_=>by simp
  | i + 1, hi, h => by
    rw [dRq_upto i (by omega) fun j hj=>h j (by omega),dRq_drop (by omega),if_pos (h i (by omega)),List.range_succ,List.map_append,List.append_assoc];rfl
theorem dRq_end {a:Int} {l:List Rx} {i:Nat} (hi:i=l.length) (h:∀ j,j<i→accR (l.getD j default)=true):dRq a l=(List.range i).map (dQ a l):=by
  rw [dRq_upto i (by omega) h,hi,List.drop_length,dRq,List.append_nil]
theorem dRq_stop {a:Int} {l:List Rx} {i:Nat} (hi:i<l.length) (h:∀ j,j<i→accR (l.getD j default)=true) (hn:accR (l.getD i default)=false):dRq a l=(List.range (i+1)).map (dQ a l):=by
  rw [dRq_upto i (by omega) h,dRq_drop hi,if_neg (by rw [hn];decide),List.range_succ,List.map_append];rfl
mutual
def dSz:Rx→Nat
  | .mk k s l=>if k=4 then 2+dSzs l else if k=3 then 2+dSzq l else if k=5 then 2+dSzs l+(Rx.mk k s l).size else 2
def dSzs:List Rx→Nat
  | []=>0
  | x :: l=>dSz x+dSzs l
def dSzq:List Rx→Nat
  | []=>0
  | x :: l=>2+dSz x+Rx.sizes l+(if accR x=true then dSzq l else 0)
end
theorem dSz_eq (r:Rx):dSz r=if r.kind=4 then 2+dSzs r.kids else if r.kind=3 then 2+dSzq r.kids else if r.kind=5 then 2+dSzs r.kids+r.size else 2:=by
  cases r with|mk k s l=>rw [dSz];rfl
theorem seqN_two (x y:Rx):(seqN [x,y]).size≤1+x.size+y.size:=by
  have:=size_seqN [x,y]
  simp only [Rx.sizes] at this;omega
theorem dSz_mem {l:List Rx} {x:Rx} (h:x∈l):dSz x≤dSzs l:=by
  induction l with
  | nil=>cases h
  | cons y l ih =>
    rw [dSzs]
    rcases List.mem_cons.1 h with rfl|h
    · omega
    · have:=ih h;omega
theorem dSz_spec (a : Int) (r : Rx) : (dR a r).size ≤ dSz r := by
  refine rx_ind (P:=fun r=>(dR a r).size≤dSz r) (fun r ih=>?_) r
  have hs:∀ l:List Rx,(∀ x∈l,(dR a x).size≤dSz x)→Rx.sizes (l.map (dR a))≤dSzs l:=by
    intro l
    induction l with
    | nil=>intro _;exact Nat.le_refl _
    | cons x l ihl =>
      intro h
      have h1:=ihl fun y hy=>h y (List.mem_cons_of_mem _ hy)
      have h2:=h x List.mem_cons_self
      rw [List.map_cons,Rx.sizes,dSzs];omega
  have hq:∀ l:List Rx,(∀ x∈l,(dR a x).size≤dSz x)→Rx.sizes (dRq a l)≤dSzq l:=by
    intro l
    induction l with
    | nil=>intro _;rw [dRq];exact Nat.le_refl _
    | cons x l ihl =>
      intro h
      have h1:=ihl fun y hy=>h y (List.mem_cons_of_mem _ hy)
      have h2:=h x List.mem_cons_self
      have h3:=seqN_two (dR a x) (seqN l)
      have h4:=size_seqN l
      rw [dRq,Rx.sizes,dSzq]
      split
      · omega
      · rw [show Rx.sizes []=0 from rfl];omega
  have h1:=hs r.kids ih
  have h2:=hq r.kids ih
  rw [dR_eq,dSz_eq]
  by_cases h:r.kind=2
  · rw [if_pos h, if_neg (show ¬ r.kind = 4 by omega), if_neg (show ¬ r.kind = 3 by omega), if_neg (show ¬ r.kind = 5 by omega)]
    split<;>rw [size_mk]<;>simp only [List.length_nil,Rx.sizes]<;>omega
  · rw [if_neg h]
    by_cases h4:r.kind=4
    · rw [if_pos h4,if_pos h4];have:=size_altN (r.kids.map (dR a));omega
    · rw [if_neg h4, if_neg h4]
      by_cases h3:r.kind=3
      · rw [if_pos h3,if_pos h3];have:=size_altN (dRq a r.kids);omega
      · rw [if_neg h3, if_neg h3]
        by_cases h5:r.kind=5
        · rw [if_pos h5, if_pos h5]
          have h6:=seqN_two ((r.kids.map (dR a)).getD 0 default) r
          by_cases h0:0<r.kids.length
          · have:=size_mem (kid_mem (l:=r.kids.map (dR a)) (i:=0) (by rw [List.length_map];exact h0));omega
          · rw [List.eq_nil_of_length_eq_zero (l := r.kids) (by omega)] at h6 ⊢
            have h7:((List.map (dR a) []).getD 0 default).size=1:=rfl
            omega
        · rw [if_neg h5,if_neg h5,size_mk];simp only [List.length_nil,Rx.sizes];omega
theorem dSzs_sizes (a:Int):∀ l:List Rx,Rx.sizes (l.map (dR a))≤dSzs l
  | []=>Nat.le_refl _
  | x :: l => by
    have h1:=dSzs_sizes a l
    have h2:=dSz_spec a x
    rw [List.map_cons,Rx.sizes,dSzs];omega
theorem dSzq_sizes (a:Int):∀ l:List Rx,Rx.sizes (dRq a l)≤dSzq l
  | []=>by rw [dRq];exact Nat.le_refl _
  | x :: l => by
    have h1:=dSzq_sizes a l
    have h2:=dSz_spec a x
    have h3:=seqN_two (dR a x) (seqN l)
    have h4:=size_seqN l
    rw [dRq,Rx.sizes,dSzq]
    split
    · omega
    · rw [show Rx.sizes []=0 from rfl];omega
theorem dSzq_get:∀ {l:List Rx} {i:Nat},i<l.length→(∀ j,j<i→accR (l.getD j default)=true)→2+dSz (l.getD i default)+Rx.sizes (l.drop (i+1))≤dSzq l
  | x :: l, 0, _, _ => by
    rw [dSzq]
    show 2+dSz x+Rx.sizes l≤_
    omega
  | x :: l, i + 1, h, ha => by
    have h1:=dSzq_get (l:=l) (i:=i) (by simpa using h) fun j hj=>ha (j+1) (by omega)
    have h2:accR x=true:=ha 0 (by omega)
    rw [dSzq,if_pos h2]
    show 2+dSz (l.getD i default)+Rx.sizes (l.drop (i+1))≤_
    omega
theorem dSz_4 {r:Rx} (h:r.kind=4) {i:Nat} (hi:i<r.kids.length):dSz (r.kids.getD i default)≤dSz r∧dSzs r.kids≤dSz r:=by
  have:=dSz_mem (kid_mem hi)
  rw [dSz_eq r,if_pos h];omega
theorem dSz_4s {r:Rx} (h:r.kind=4):dSzs r.kids≤dSz r:=by rw [dSz_eq r,if_pos h];omega
theorem dSz_3s {r:Rx} (h:r.kind=3):dSzq r.kids≤dSz r:=by rw [dSz_eq r,if_neg (by omega),if_pos h];omega
theorem dSz_3 {r:Rx} (h:r.kind=3) {i:Nat} (hi:i<r.kids.length) (ha:∀ j,j<i→accR (r.kids.getD j default)=true):2+dSz (r.kids.getD i default)+Rx.sizes (r.kids.drop (i+1))≤dSz r:=by
  have:=dSzq_get hi ha
  have:=dSz_3s h
  omega
theorem dSz_5 {r:Rx} (h:r.kind=5) (h0:0<r.kids.length):2+dSz (r.kids.getD 0 default)+r.size≤dSz r:=by
  have:=dSz_mem (kid_mem h0)
  rw [dSz_eq r,if_neg (by omega),if_neg (by omega),if_pos h];omega
theorem dL_sizes (a:Int) (r:Rx):Rx.sizes (dL a r)≤dSz r:=by
  by_cases h4:r.kind=4
  · rw [dL_4 h4];have:=dSzs_sizes a r.kids;have:=dSz_4s h4;omega
  · by_cases h3 : r.kind = 3
    · rw [dL_3 h3];have:=dSzq_sizes a r.kids;have:=dSz_3s h3;omega
    · rw [dL_x h4 h3];exact Nat.zero_le _
theorem mid_eq {i j:Nat} (h:i+j<4611686018427387904):IntKind.i64.wrap ((IntKind.u64.wrap ((i:Int)+j)).fdiv (2 ^ (min (1:Int).toNat IntKind.u64.bits)))=(((i+j) / 2:Nat):Int):=by
  have h1:IntKind.u64.wrap ((i:Int)+j)=(i:Int)+j:=by simp [IntKind.wrap,IntKind.signed,IntKind.bits];omega
  have h2:∀ n:Int,0≤n→n<4611686018427387904→IntKind.i64.wrap n=n:=fun n h0 h1=>by
    simp [IntKind.wrap,IntKind.signed,IntKind.bits];omega
  rw [h1,show (min (1:Int).toNat IntKind.u64.bits)=1 from rfl,Int.fdiv_eq_ediv_of_nonneg _ (by decide),h2 _ (by omega) (by omega)]
  omega
end Go.Wb

namespace Go.Wb
open Go.Am
theorem nf_valid {x:Rx} (h:Nf x):validR x=true:=by
  induction h with
  | none=>rw [validR_01 (.inl rfl)];rfl
  | empty=>rw [validR_01 (.inr rfl)];rfl
  | set h=>rw [validR_2 rfl,show setOk (Rx.syms (.mk 2 _ []))=true from h];rfl
  | seq h1 h2 h3 ih =>
    rw [validR_34 (.inl rfl)]
    show (true&&!(List.any _ _))=true
    rw [Bool.true_and,Bool.not_eq_true',List.any_eq_false]
    exact fun x hx=>by rw [ih x hx];decide
  | alt h1 h2 h3 h4 h5 h6 ih =>
    rw [validR_34 (.inr rfl)]
    show (true&&!(List.any _ _))=true
    rw [Bool.true_and,Bool.not_eq_true',List.any_eq_false]
    exact fun x hx=>by rw [ih x hx];decide
  | star h1 h2 h3 ih =>
    rw [validR_5 rfl]
    show (true&&(true&&validR _))=true
    rw [Bool.true_and,Bool.true_and];exact ih
theorem dRq_mem {a : Int} {y : Rx} : ∀ {l : List Rx}, y ∈ dRq a l → ∃ i, i < l.length ∧ y = dQ a l i
  | [],h=>by rw [dRq] at h;cases h
  | x :: l, h => by
    rw [dRq] at h
    rcases List.mem_cons.1 h with rfl|h
    · exact ⟨0,by simp,rfl⟩
    · split at h
      · obtain ⟨i, hi, e⟩ := dRq_mem h
        exact ⟨i+1,by simpa using hi,by rw [e];rfl⟩
      · cases h
theorem dR_nf (a:Int) {x:Rx} (h:Nf x):Nf (dR a x):=by
  have hseq:∀ l:List Rx,(∀ x∈l,Nf x)→(∀ x∈l,Nf (dR a x))→∀ y∈dRq a l,Nf y:=fun l h1 h2 y hy=>by
    obtain ⟨i,hi,rfl⟩:=dRq_mem hy
    refine seqN_nf fun z hz=>?_
    rcases List.mem_cons.1 hz with rfl|hz
    · exact h2 _ (kid_mem hi)
    · rw [List.mem_singleton.1 hz];exact seqN_nf fun u hu=>h1 u (List.mem_of_mem_drop hu)
  have hmap:∀ l:List Rx,(∀ x∈l,Nf (dR a x))→∀ y∈l.map (dR a),Nf y:=fun l h2 y hy=>by
    obtain ⟨z,hz,rfl⟩:=List.mem_map.1 hy;exact h2 z hz
  induction h with
  | none=>rw [dR_x (by decide) (fun h=>by cases h),dL_x (by decide) (by decide),altN_nil];exact .none
  | empty=>rw [dR_x (by decide) (fun h=>by cases h),dL_x (by decide) (by decide),altN_nil];exact .none
  | set h =>
    rw [dR_eq,if_pos (show (Rx.mk 2 _ []).kind=2 from rfl)]
    split
    · exact .empty
    · exact .none
  | seq h1 h2 h3 ih =>
    rw [dR_x (by simp [Rx.kind]) (by simp [Rx.kind]),dL_3 rfl]
    exact altN_nf (hseq _ h2 ih)
  | alt h1 h2 h3 h4 h5 h6 ih =>
    rw [dR_x (by simp [Rx.kind]) (by simp [Rx.kind]),dL_4 rfl]
    exact altN_nf (hmap _ ih)
  | @star y h1 h2 h3 ih =>
    rw [dR_5k rfl (by show 0<1;decide)]
    refine seqN_nf fun z hz=>?_
    rcases List.mem_cons.1 hz with rfl|hz
    · exact ih
    · rw [List.mem_singleton.1 hz];exact .star h1 h2 h3
theorem seqL_self {l:List Rx} (h:∀ x∈l,x.kind≠1∧x.kind≠3):seqL l=l:=by
  induction l with
  | nil=>rfl
  | cons x l ih =>
    have e:seqL (x :: l)=seqF x++seqL l:=rfl
    rw [e,ih fun y hy=>h y (List.mem_cons_of_mem _ hy),seqF_x (h x List.mem_cons_self).2 (h x List.mem_cons_self).1];rfl
def simR (r:Rx):Rx:=if validR r=true then buildR false r else noneRx
def revR (r:Rx):Rx:=if validR r=true then buildR true r else noneRx
theorem simR_nf (r:Rx):Nf (simR r):=by
  unfold simR;split
  · next h=>exact build_nf false r h
  · exact .none
def mtR (r:Rx) (w:List Int) (k:Nat):Rx:=(w.take k).foldl (fun x a=>dR a x) (simR r)
theorem mtR_succ {r:Rx} {w:List Int} {k:Nat} (h:k<w.length):mtR r w (k+1)=dR (w.getD k default) (mtR r w k):=by
  unfold mtR;rw [take_succ' h,List.foldl_append];rfl
theorem mtR_nf (r:Rx) (w:List Int) (k:Nat):Nf (mtR r w k):=by
  unfold mtR
  generalize w.take k=v
  have:∀ (v:List Int) (x:Rx),Nf x→Nf (v.foldl (fun x a=>dR a x) x):=by
    intro v
    induction v with
    | nil=>exact fun x h=>h
    | cons a v ih=>exact fun x h=>ih _ (dR_nf a h)
  exact this v _ (simR_nf r)
def matchR (r:Rx) (w:List Int):Bool:=accR (mtR r w w.length)
theorem size_simR (r:Rx):(simR r).size≤2*r.size:=by
  unfold simR;split
  · exact size_build false r
  · have:=size_pos r;rw [size_mk];simp only [List.length_nil,Rx.sizes];omega
end Go.Wb

namespace Go.Wc
def order:List Int→List Int→Int
  | [],[]=>0
  | [],_ :: _=>-1
  | _ :: _,[]=>1
  | x :: xs,y :: ys=>if x<y then -1 else if y<x then 1 else order xs ys
theorem drop_cons {α:Type} [Inhabited α] {l:List α} {k:Nat} (h:k<l.length):l.drop k=l.getD k default :: l.drop (k+1):=by
  rw [List.drop_eq_getElem_cons h,List.getD_eq_getElem?_getD,List.getElem?_eq_getElem h];rfl
end Go.Wc

namespace Go.Wc
open Go.Am
def I64 (n:Int):Prop:=-9223372036854775808≤n∧n≤9223372036854775807
def I64s (l:List Int):Prop:=∀ x∈l,I64 x
theorem I64s.get {l:List Int} (h:I64s l) (k:Nat):I64 (l.getD k default):=by
  rw [List.getD_eq_getElem?_getD]
  cases hk:l[k]? with
  | none=>exact ⟨by decide,by decide⟩
  | some x=>exact h x (List.mem_of_getElem? hk)
theorem I64s.take {l:List Int} (h:I64s l) (k:Nat):I64s (l.take k):=fun x hx=>h x (List.mem_of_mem_take hx)
theorem take_succ {α:Type} [Inhabited α] {l:List α} {k:Nat} (h:k<l.length):l.take (k+1)=l.take k++[l.getD k default]:=by
  rw [List.take_succ_eq_append_getElem h,List.getD_eq_getElem?_getD,List.getElem?_eq_getElem h];rfl

def around (n most:Int):Int:=(if n<0 then -(n+1) else n) % most
theorem around_lt {n most:Int} (h:0<most):0≤around n most∧around n most<most:=⟨Int.emod_nonneg _ (by omega),Int.emod_lt_of_pos _ h⟩
def atL (l:List Int) (i most:Int):Int:=if i<0∨(l.length:Int)≤i then 0 else around (l.getD i.toNat default) most
def numL (l:List Int) (i:Int):Int:=if l.length=0 then 0 else
  let x:=(l.getD (i % l.length).toNat default).tmod 1048576
  (if x<0 then -x else x)+13*(i / l.length)
structure Letter where
  text:List UInt8
  base:Int
  mark:Int
  cap:Int
  width:Int
  deriving Inhabited,DecidableEq
def letter (x:Letter):AV:=.agg [sbytes x.text,int x.base,int x.mark,int x.cap,int x.width]
abbrev letters (a:List Letter):AV:=.sl (a.map letter)
def isL (a:List Letter) (x:Int):Bool:=decide (0≤x)&&decide (x<a.length)
def lev (a:List Letter) (k x:Int):Int :=
  if k=1 then (a.getD x.toNat default).base else if k=2 then (a.getD x.toNat default).mark else if k=3 then (a.getD x.toNat default).cap else x
def lets (a:List Letter) (w:List Int):List Int:=w.filter (isL a)
def level (a:List Letter) (w:List Int) (k:Int):List Int:=if 1≤k∧k≤4 then (lets a w).map (lev a k) else []
def upto (a:List Letter) (v w:List Int):Nat→Int→Int
  | 0,_=>0
  | n+1,i=>let c:=order (level a v i) (level a w i);if c≠0 then c else upto a v w n (i+1)
end Go.Wc

namespace Go.Wb
open Go.Am Go.Wc
abbrev minI (a b:Int):Int:=if b<a then b else a
abbrev maxI (a b:Int):Int:=if a<b then b else a
def shpF (most n:Int) (st:List Rx):List Rx :=
  if n % 8≤1 then st++[.mk 2 [n / 8 % most] []]
  else if n % 8=2 then st++[if n / 8 % most=n / 8 / most % most then .mk 2 [n / 8 % most] [] else .mk 2 [minI (n / 8 % most) (n / 8 / most % most),maxI (n / 8 % most) (n / 8 / most % most)] []]
  else if n % 8=3∧0<st.length then st.set (st.length-1) (.mk 5 [] [st.getD (st.length-1) default])
  else if n % 8=4∧1<st.length then (st.set (st.length-2) (.mk 3 [] [st.getD (st.length-2) default,st.getD (st.length-1) default])).take (st.length-1)
  else if n % 8=5∧1<st.length then (st.set (st.length-2) (.mk 4 [] [st.getD (st.length-2) default,st.getD (st.length-1) default])).take (st.length-1)
  else if n % 8=6∧0<st.length then st.set (st.length-1) (.mk 4 [] [emptyRx,st.getD (st.length-1) default])
  else if n % 8=7 then st++[.mk (minI 1 (n / 8 % 8)) [] []]
  else st
def shpN (most:Int) (l:List Int):Nat→List Rx
  | 0=>[]
  | i+1=>shpF most (around (l.getD i default) 1048576) (shpN most l i)
def shpE (st:List Rx):Rx:=if st.length=1 then st.getD 0 default else .mk 3 [] st
def shapedP (l:List Int) (most:Int):Rx:=shpE (shpN most l (min l.length 16))
theorem shpF_len (most n:Int) (st:List Rx):(shpF most n st).length≤st.length+1:=by
  unfold shpF
  repeat' split
  all_goals simp
  all_goals omega
theorem shpN_len (most:Int) (l:List Int):∀ i,(shpN most l i).length≤i
  | 0=>Nat.le_refl _
  | i+1=>Nat.le_trans (shpF_len _ _ _) (Nat.succ_le_succ (shpN_len most l i))
section
variable {most n:Int} {st:List Rx}
theorem shpF_01 (h:n % 8≤1):shpF most n st=st++[.mk 2 [n / 8 % most] []]:=if_pos h
theorem shpF_2a (h:¬ n % 8≤1) (h2:n % 8=2) (he:n / 8 % most=n / 8 / most % most):shpF most n st=st++[.mk 2 [n / 8 % most] []]:=by
  unfold shpF;rw [if_neg h,if_pos h2,if_pos he]
theorem shpF_2b (h:¬ n % 8≤1) (h2:n % 8=2) (he:¬ n / 8 % most=n / 8 / most % most):shpF most n st=st++[.mk 2 [minI (n / 8 % most) (n / 8 / most % most),maxI (n / 8 % most) (n / 8 / most % most)] []]:=by
  unfold shpF;rw [if_neg h,if_pos h2,if_neg he]
theorem shpF_3 (h:n % 8=3) (h0:0<st.length):shpF most n st=st.set (st.length-1) (.mk 5 [] [st.getD (st.length-1) default]):=by
  unfold shpF;rw [if_neg (by omega),if_neg (by omega),if_pos ⟨h,h0⟩]
theorem shpF_4 (h:n % 8=4) (h0:1<st.length):shpF most n st=(st.set (st.length-2) (.mk 3 [] [st.getD (st.length-2) default,st.getD (st.length-1) default])).take (st.length-1):=by
  unfold shpF;rw [if_neg (by omega),if_neg (by omega),if_neg (by omega),if_pos ⟨h,h0⟩]
theorem shpF_5 (h:n % 8=5) (h0:1<st.length):shpF most n st=(st.set (st.length-2) (.mk 4 [] [st.getD (st.length-2) default,st.getD (st.length-1) default])).take (st.length-1):=by
  unfold shpF;rw [if_neg (by omega),if_neg (by omega),if_neg (by omega),if_neg (by omega),if_pos ⟨h,h0⟩]
theorem shpF_6 (h:n % 8=6) (h0:0<st.length):shpF most n st=st.set (st.length-1) (.mk 4 [] [emptyRx,st.getD (st.length-1) default]):=by
  unfold shpF;rw [if_neg (by omega),if_neg (by omega),if_neg (by omega),if_neg (by omega),if_neg (by omega),if_pos ⟨h,h0⟩]
theorem shpF_7 (h:n % 8=7):shpF most n st=st++[.mk (minI 1 (n / 8 % 8)) [] []]:=by
  unfold shpF;rw [if_neg (by omega),if_neg (by omega),if_neg (by omega),if_neg (by omega),if_neg (by omega),if_neg (by omega),if_pos h]
theorem shpF_x (h:¬ n % 8≤1) (h2:¬ n % 8=2) (h3:¬ (n % 8=3∧0<st.length)) (h4:¬ (n % 8=4∧1<st.length)) (h5:¬ (n % 8=5∧1<st.length)) (h6:¬ (n % 8=6∧0<st.length)) (h7:¬ n % 8=7):shpF most n st=st:=by
  unfold shpF;rw [if_neg h,if_neg h2,if_neg h3,if_neg h4,if_neg h5,if_neg h6,if_neg h7]
end
def symP (n:Int):Int:=if n.tmod 5=4 then n else around n 4
def wordP (l:List Int) (most long:Int):List Int:=(l.take long.toNat).map fun x=>around x most
end Go.Wb

namespace Go.Proofs
open Go.Shelf
def Tryz.sortR_ren:Go.Shelf.Ren:=⟨fun|6=>114|15=>133|14=>134|28=>152|29=>153|20=>154|21=>155|22=>156|23=>157|24=>158|25=>159|26=>160|27=>161|46=>172|47=>168|48=>169|49=>173|50=>174|57=>177|n=>n,fun|22=>23|24=>25|25=>63|3=>3|39=>129|0=>0|53=>159|55=>121|4=>4|46=>153|45=>152|50=>94|5=>5|9=>9|66=>168|70=>172|76=>178|77=>179|n=>n,fun|n=>n⟩
theorem Tryz.sortR:Go.Proofs.SlLaysF0.n6 Tryz.prog Tryz.sortR_ren:={
  mixed:=by kernel_rfl
  f6:=⟨Tryz.f114.name,by decide,Tryz.func114.trans (congrArg some (by kernel_rfl))⟩
  f14:=⟨Tryz.f134.name,by decide,Tryz.func134.trans (congrArg some (by kernel_rfl))⟩
  f15:=Tryz.func133.trans (congrArg some (by kernel_rfl))
  f20:=⟨Tryz.f154.name,by decide,Tryz.func154.trans (congrArg some (by kernel_rfl))⟩
  f21:=⟨Tryz.f155.name,by decide,Tryz.func155.trans (congrArg some (by kernel_rfl))⟩
  f22:=⟨Tryz.f156.name,by decide,Tryz.func156.trans (congrArg some (by kernel_rfl))⟩
  f23:=⟨Tryz.f157.name,by decide,Tryz.func157.trans (congrArg some (by kernel_rfl))⟩
  f24:=⟨Tryz.f158.name,by decide,Tryz.func158.trans (congrArg some (by kernel_rfl))⟩
  f25:=⟨Tryz.f159.name,by decide,Tryz.func159.trans (congrArg some (by kernel_rfl))⟩
  f26:=⟨Tryz.f160.name,by decide,Tryz.func160.trans (congrArg some (by kernel_rfl))⟩
  f27:=⟨Tryz.f161.name,by decide,Tryz.func161.trans (congrArg some (by kernel_rfl))⟩
  f28:=Tryz.func152.trans (congrArg some (by kernel_rfl))
  f29:=Tryz.func153.trans (congrArg some (by kernel_rfl))
  f46:=⟨Tryz.f172.name,by decide,Tryz.func172.trans (congrArg some (by kernel_rfl))⟩
  f47:=Tryz.func168.trans (congrArg some (by kernel_rfl))
  f48:=Tryz.func169.trans (congrArg some (by kernel_rfl))
  f49:=⟨Tryz.f173.name,by decide,Tryz.func173.trans (congrArg some (by kernel_rfl))⟩
  f50:=⟨Tryz.f174.name,by decide,Tryz.func174.trans (congrArg some (by kernel_rfl))⟩
  f57:=⟨Tryz.f177.name,by decide,Tryz.func177.trans (congrArg some (by kernel_rfl))⟩
  t0:=Tryz.underlying0
  a0:=Tryz.isAgg0
  z0:=Tryz.sizeOf0
  v0:=Tryz.zeroValue0
  t3:=Tryz.underlying3
  a3:=Tryz.isAgg3
  z3:=Tryz.sizeOf3
  v3:=Tryz.zeroValue3
  t4:=Tryz.underlying4
  a4:=Tryz.isAgg4
  z4:=Tryz.sizeOf4
  v4:=Tryz.zeroValue4
  t5:=Tryz.underlying5
  a5:=Tryz.isAgg5
  z5:=Tryz.sizeOf5
  v5:=Tryz.zeroValue5
  t9:=Tryz.underlying9
  a9:=Tryz.isAgg9
  z9:=Tryz.sizeOf9
  v9:=Tryz.zeroValue9
  t22:=Tryz.underlying23
  a22:=Tryz.isAgg23
  z22:=Tryz.sizeOf23
  v22:=Tryz.zeroValue23
  t25:=Tryz.underlying63
  a25:=Tryz.isAgg63
  z25:=Tryz.sizeOf63
  v25:=Tryz.zeroValue63
  t39:=Tryz.underlying129
  a39:=Tryz.isAgg129
  z39:=Tryz.sizeOf129
  v39:=Tryz.zeroValue129
  t45:=Tryz.underlying152
  a45:=Tryz.isAgg152
  z45:=Tryz.sizeOf152
  v45:=Tryz.zeroValue152
  t46:=Tryz.underlying153
  a46:=Tryz.isAgg153
  z46:=Tryz.sizeOf153
  v46:=Tryz.zeroValue153
  t50:=Tryz.underlying94
  a50:=Tryz.isAgg94
  z50:=Tryz.sizeOf94
  v50:=Tryz.zeroValue94
  t53:=Tryz.underlying159
  a53:=Tryz.isAgg159
  z53:=Tryz.sizeOf159
  v53:=Tryz.zeroValue159
  t55:=Tryz.underlying121
  a55:=Tryz.isAgg121
  z55:=Tryz.sizeOf121
  v55:=Tryz.zeroValue121
  t66:=Tryz.underlying168
  a66:=Tryz.isAgg168
  z66:=Tryz.sizeOf168
  v66:=Tryz.zeroValue168
  t70:=Tryz.underlying172
  a70:=Tryz.isAgg172
  z70:=Tryz.sizeOf172
  v70:=Tryz.zeroValue172
  t76:=Tryz.underlying178
  a76:=Tryz.isAgg178
  z76:=Tryz.sizeOf178
  v76:=Tryz.zeroValue178
  t77:=Tryz.underlying179
  a77:=Tryz.isAgg179
  z77:=Tryz.sizeOf179
  v77:=Tryz.zeroValue179 }
def Tryz.sortZ_ren:Go.Shelf.Ren:=⟨fun|5=>112|8=>133|7=>132|19=>152|20=>153|10=>144|11=>145|12=>146|13=>147|14=>148|15=>149|16=>119|17=>150|18=>151|30=>167|31=>168|32=>169|33=>170|34=>171|35=>139|40=>176|n=>n,fun|23=>22|25=>3|3=>3|32=>129|22=>22|0=>0|44=>159|46=>121|4=>4|36=>153|35=>152|41=>94|5=>5|9=>9|53=>168|57=>172|63=>178|64=>179|n=>n,fun|n=>n⟩
theorem Tryz.sortZ:Go.Proofs.SlLaysM.n5 Tryz.prog Tryz.sortZ_ren:={
  mixed:=by kernel_rfl
  f5:=⟨Tryz.f112.name,by decide,Tryz.func112.trans (congrArg some (by kernel_rfl))⟩
  f7:=⟨Tryz.f132.name,by decide,Tryz.func132.trans (congrArg some (by kernel_rfl))⟩
  f8:=Tryz.func133.trans (congrArg some (by kernel_rfl))
  f10:=⟨Tryz.f144.name,by decide,Tryz.func144.trans (congrArg some (by kernel_rfl))⟩
  f11:=⟨Tryz.f145.name,by decide,Tryz.func145.trans (congrArg some (by kernel_rfl))⟩
  f12:=⟨Tryz.f146.name,by decide,Tryz.func146.trans (congrArg some (by kernel_rfl))⟩
  f13:=⟨Tryz.f147.name,by decide,Tryz.func147.trans (congrArg some (by kernel_rfl))⟩
  f14:=⟨Tryz.f148.name,by decide,Tryz.func148.trans (congrArg some (by kernel_rfl))⟩
  f15:=⟨Tryz.f149.name,by decide,Tryz.func149.trans (congrArg some (by kernel_rfl))⟩
  f16:=⟨Tryz.f119.name,by decide,Tryz.func119.trans (congrArg some (by kernel_rfl))⟩
  f17:=⟨Tryz.f150.name,by decide,Tryz.func150.trans (congrArg some (by kernel_rfl))⟩
  f18:=⟨Tryz.f151.name,by decide,Tryz.func151.trans (congrArg some (by kernel_rfl))⟩
  f19:=Tryz.func152.trans (congrArg some (by kernel_rfl))
  f20:=Tryz.func153.trans (congrArg some (by kernel_rfl))
  f30:=⟨Tryz.f167.name,by decide,Tryz.func167.trans (congrArg some (by kernel_rfl))⟩
  f31:=Tryz.func168.trans (congrArg some (by kernel_rfl))
  f32:=Tryz.func169.trans (congrArg some (by kernel_rfl))
  f33:=⟨Tryz.f170.name,by decide,Tryz.func170.trans (congrArg some (by kernel_rfl))⟩
  f34:=⟨Tryz.f171.name,by decide,Tryz.func171.trans (congrArg some (by kernel_rfl))⟩
  f35:=⟨Tryz.f139.name,by decide,Tryz.func139.trans (congrArg some (by kernel_rfl))⟩
  f40:=⟨Tryz.f176.name,by decide,Tryz.func176.trans (congrArg some (by kernel_rfl))⟩
  t0:=Tryz.underlying0
  a0:=Tryz.isAgg0
  z0:=Tryz.sizeOf0
  v0:=Tryz.zeroValue0
  t3:=Tryz.underlying3
  a3:=Tryz.isAgg3
  z3:=Tryz.sizeOf3
  v3:=Tryz.zeroValue3
  t4:=Tryz.underlying4
  a4:=Tryz.isAgg4
  z4:=Tryz.sizeOf4
  v4:=Tryz.zeroValue4
  t5:=Tryz.underlying5
  a5:=Tryz.isAgg5
  z5:=Tryz.sizeOf5
  v5:=Tryz.zeroValue5
  t9:=Tryz.underlying9
  a9:=Tryz.isAgg9
  z9:=Tryz.sizeOf9
  v9:=Tryz.zeroValue9
  t22:=Tryz.underlying22
  a22:=Tryz.isAgg22
  z22:=Tryz.sizeOf22
  v22:=Tryz.zeroValue22
  t23:=Tryz.underlying22
  a23:=Tryz.isAgg22
  z23:=Tryz.sizeOf22
  v23:=Tryz.zeroValue22
  t25:=Tryz.underlying3
  a25:=Tryz.isAgg3
  z25:=Tryz.sizeOf3
  v25:=Tryz.zeroValue3
  t32:=Tryz.underlying129
  a32:=Tryz.isAgg129
  z32:=Tryz.sizeOf129
  v32:=Tryz.zeroValue129
  t35:=Tryz.underlying152
  a35:=Tryz.isAgg152
  z35:=Tryz.sizeOf152
  v35:=Tryz.zeroValue152
  t36:=Tryz.underlying153
  a36:=Tryz.isAgg153
  z36:=Tryz.sizeOf153
  v36:=Tryz.zeroValue153
  t41:=Tryz.underlying94
  a41:=Tryz.isAgg94
  z41:=Tryz.sizeOf94
  v41:=Tryz.zeroValue94
  t44:=Tryz.underlying159
  a44:=Tryz.isAgg159
  z44:=Tryz.sizeOf159
  v44:=Tryz.zeroValue159
  t46:=Tryz.underlying121
  a46:=Tryz.isAgg121
  z46:=Tryz.sizeOf121
  v46:=Tryz.zeroValue121
  t53:=Tryz.underlying168
  a53:=Tryz.isAgg168
  z53:=Tryz.sizeOf168
  v53:=Tryz.zeroValue168
  t57:=Tryz.underlying172
  a57:=Tryz.isAgg172
  z57:=Tryz.sizeOf172
  v57:=Tryz.zeroValue172
  t63:=Tryz.underlying178
  a63:=Tryz.isAgg178
  z63:=Tryz.sizeOf178
  v63:=Tryz.zeroValue178
  t64:=Tryz.underlying179
  a64:=Tryz.isAgg179
  z64:=Tryz.sizeOf179
  v64:=Tryz.zeroValue179 }
def Tryz.revR_ren:Go.Shelf.Ren:=⟨fun|35=>76|n=>n,fun|22=>23|23=>25|3=>3|4=>4|0=>0|n=>n,fun|n=>n⟩
theorem Tryz.revR:Go.Proofs.SlLaysE0.n35 Tryz.prog Tryz.revR_ren:={
  mixed:=by kernel_rfl
  f35:=⟨Tryz.f76.name,by decide,Tryz.func76.trans (congrArg some (by kernel_rfl))⟩
  t0:=Tryz.underlying0
  a0:=Tryz.isAgg0
  z0:=Tryz.sizeOf0
  v0:=Tryz.zeroValue0
  t3:=Tryz.underlying3
  a3:=Tryz.isAgg3
  z3:=Tryz.sizeOf3
  v3:=Tryz.zeroValue3
  t4:=Tryz.underlying4
  a4:=Tryz.isAgg4
  z4:=Tryz.sizeOf4
  v4:=Tryz.zeroValue4
  t22:=Tryz.underlying23
  a22:=Tryz.isAgg23
  z22:=Tryz.sizeOf23
  v22:=Tryz.zeroValue23 }
def Tryz.ixB_ren:Go.Shelf.Ren:=⟨fun|137=>90|217=>122|266=>140|n=>n,fun|9=>9|5=>5|3=>3|n=>n,fun|n=>n⟩
theorem Tryz.ixB:Go.Proofs.Lays.n137 Tryz.prog Tryz.ixB_ren:={
  mixed:=by kernel_rfl
  f137:=Tryz.func90.trans (congrArg some (by kernel_rfl))
  f217:=Tryz.func122.trans (congrArg some (by kernel_rfl))
  f266:=Tryz.func140.trans (congrArg some (by kernel_rfl))
  t3:=Tryz.underlying3
  a3:=Tryz.isAgg3
  z3:=Tryz.sizeOf3
  v3:=Tryz.zeroValue3
  t5:=Tryz.underlying5
  a5:=Tryz.isAgg5
  z5:=Tryz.sizeOf5
  v5:=Tryz.zeroValue5
  t9:=Tryz.underlying9
  a9:=Tryz.isAgg9
  z9:=Tryz.sizeOf9
  v9:=Tryz.zeroValue9 }
def Tryz.ixS_ren:Go.Shelf.Ren:=⟨fun|219=>141|217=>122|225=>162|224=>163|267=>164|266=>140|314=>175|n=>n,fun|9=>9|3=>3|4=>4|5=>5|46=>129|146=>176|51=>159|n=>n,fun|1=>0|n=>n⟩
theorem Tryz.ixS:Go.Proofs.Lays.n219 Tryz.prog Tryz.ixS_ren:={
  mixed:=by kernel_rfl
  f217:=Tryz.func122.trans (congrArg some (by kernel_rfl))
  f219:=Tryz.func141.trans (congrArg some (by kernel_rfl))
  f224:=Tryz.func163.trans (congrArg some (by kernel_rfl))
  f225:=Tryz.func162.trans (congrArg some (by kernel_rfl))
  f266:=Tryz.func140.trans (congrArg some (by kernel_rfl))
  f267:=Tryz.func164.trans (congrArg some (by kernel_rfl))
  f314:=Tryz.func175.trans (congrArg some (by kernel_rfl))
  t3:=Tryz.underlying3
  a3:=Tryz.isAgg3
  z3:=Tryz.sizeOf3
  v3:=Tryz.zeroValue3
  t4:=Tryz.underlying4
  a4:=Tryz.isAgg4
  z4:=Tryz.sizeOf4
  v4:=Tryz.zeroValue4
  t5:=Tryz.underlying5
  a5:=Tryz.isAgg5
  z5:=Tryz.sizeOf5
  v5:=Tryz.zeroValue5
  t9:=Tryz.underlying9
  a9:=Tryz.isAgg9
  z9:=Tryz.sizeOf9
  v9:=Tryz.zeroValue9
  t46:=Tryz.underlying129
  a46:=Tryz.isAgg129
  z46:=Tryz.sizeOf129
  v46:=Tryz.zeroValue129
  t51:=Tryz.underlying159
  a51:=Tryz.isAgg159
  z51:=Tryz.sizeOf159
  v51:=Tryz.zeroValue159
  t146:=Tryz.underlying176
  a146:=Tryz.isAgg176
  z146:=Tryz.sizeOf176
  v146:=Tryz.zeroValue176
  g1:=by kernel_rfl }
end Go.Proofs

