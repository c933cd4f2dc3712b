/-
  DERIVED: THE SHELF's CONTRACTS AT THIS DUMP,IN PLAIN WORDS (tools/lay-plain.mjs out of 'YtjimlkpfmbachaaGreatLay.lean',which tools/lay-shelf.mjs wrote): THE SAME DECLARATIONS UNDER THE SAME NAMES: 'import','namespace','open','def','theorem' AND NOTHING ELSE: no command of the shelf's: FOR A HAND-IN. Each laying: the table of numbers ('.._ren') and one theorem,a field a fact of the dump's own or the kernel's comparison;each contract: ONE APPLICATION.
-/
import Derived.Test.YtjimlkpfmbachaaGreatJ18
import Derived.Test.YtjimlkpfmbachaaGreatJ17
import Derived.Test.YtjimlkpfmbachaaGreatJ13
import Derived.Test.YtjimlkpfmbachaaGreatRows
import Derived.Shelf.SlGeneric
import Derived.Shelf.SlSortCmp.NoneTotal
import Derived.Shelf.SortM.Plain
import Derived.Shelf.SortM.SortNone
import Derived.Ground.SlsfProg
import Derived.Ground.SlgmProg
import Derived.Ground.SlgnProg
import Derived.Shelf.SlicesQ.Reverse
set_option linter.unusedVariables false
set_option linter.unusedSectionVars false
set_option linter.unusedSimpArgs false
namespace Go.Wb
open Go.Am
theorem sizes_seqF (x:Rx):Rx.sizes (seqF x)≤x.size:=by
  unfold seqF
  split
  · have:=size_eq x;omega
  · split
    · have : Rx.sizes [] = 0 := rfl
      omega
    · rw [Rx.sizes,Rx.sizes];omega
theorem sizes_seqL:∀ l:List Rx,Rx.sizes (seqL l)≤Rx.sizes l
  | []=>Nat.le_refl _
  | x :: l => by
    have:=sizes_seqL l
    have:=sizes_seqF x
    have e:seqL (x :: l)=seqF x++seqL l:=rfl
    rw [e,sizes_append,Rx.sizes];omega
theorem size_mk (k:Int) (s:List Int) (l:List Rx):(Rx.mk k s l).size=1+s.length+Rx.sizes l:=by rw [Rx.size]
theorem size_seqN (l:List Rx):(seqN l).size≤1+Rx.sizes l:=by
  have h:=sizes_seqL l
  refine seqN_cases (fun r=>r.size≤1+Rx.sizes l) (by rw [size_mk];simp only [List.length_nil,Rx.sizes];omega) fun _=>?_
  unfold seqE
  split
  · rw [size_mk];simp only [List.length_nil,Rx.sizes];omega
  · split
    · have:=size_mem (kid_mem (l:=seqL l) (i:=0) (by omega));omega
    · rw [size_mk];simp only [List.length_nil];omega
theorem sizes_sublist {l m:List Rx} (h:l.Sublist m):Rx.sizes l≤Rx.sizes m:=by
  induction h with
  | slnil=>exact Nat.le_refl _
  | cons x _ ih=>rw [Rx.sizes];omega
  | cons_cons x _ ih=>rw [Rx.sizes,Rx.sizes];omega
theorem cptN_sub {α:Type} [Inhabited α] {eq:α→α→Bool} {l:List α}:∀ i,i≤l.length→(cptN eq l i).Sublist (l.take i)
  | 0,_=>by rw [cptN];exact List.nil_sublist _
  | i + 1, h => by
    rw [cptN,take_succ' h]
    have:=cptN_sub (eq:=eq) (l:=l) i (by omega)
    split
    · exact this.trans (List.sublist_append_left _ _)
    · exact this.append (List.Sublist.refl _)
theorem sizes_altD (l:List Rx):Rx.sizes (altD l)≤1+Rx.sizes l:=by
  have h1:=sizes_sublist (cptN_sub (eq:=eqR) (l:=sortR (altM (altS l) (altK l))) _ (Nat.le_refl _))
  rw [List.take_length] at h1
  have h2:Rx.sizes (sortR (altM (altS l) (altK l)))=Rx.sizes (altM (altS l) (altK l)):=sizes_perm (isort_perm _)
  have h3:=altM_sizes (altS l) (altK l)
  have h4:=alt_bd l
  show Rx.sizes (cptN _ _ _)≤_
  omega
theorem sizes_altC (k:List Rx):Rx.sizes (altC k)≤Rx.sizes k:=by
  unfold altC
  split
  · exact sizes_sublist (List.drop_sublist _ _)
  · exact Nat.le_refl _
theorem size_altN (l:List Rx):(altN l).size≤2+Rx.sizes l:=by
  have h:=sizes_altC (altD l)
  have h1:=sizes_altD l
  unfold altN altE
  split
  · rw [size_mk];simp only [List.length_nil,Rx.sizes];omega
  · split
    · have:=size_mem (kid_mem (l:=altC (altD l)) (i:=0) (by omega));omega
    · rw [size_mk];simp only [List.length_nil];omega
theorem size_starB (x:Rx):(starB x).size≤x.size:=by
  unfold starB
  split
  · split
    · exact Nat.le_of_lt (size_kid (kid_mem (by omega)))
    · rw [size_mk, size_eq x]
      have:=sizes_sublist (List.drop_sublist 1 x.kids)
      omega
  · exact Nat.le_refl _
theorem size_starN (x:Rx):(starN x).size≤1+x.size:=by
  unfold starN
  split
  · rw [size_mk];simp only [List.length_nil,Rx.sizes];omega
  · split
    · omega
    · have := size_starB x
      rw [size_mk];simp only [List.length_nil,Rx.sizes];omega
theorem sizes_rev (l:List Rx):Rx.sizes l.reverse=Rx.sizes l:=sizes_perm (List.reverse_perm l)
theorem sizes_map_le {f:Rx→Rx}:∀ {l:List Rx},(∀ x∈l,(f x).size≤2*x.size)→Rx.sizes (l.map f)≤2*Rx.sizes l
  | [],_=>Nat.le_refl _
  | x :: l, h => by
    have h1:=sizes_map_le (l:=l) fun y hy=>h y (List.mem_cons_of_mem _ hy)
    have h2:=h x List.mem_cons_self
    rw [List.map_cons,Rx.sizes,Rx.sizes];omega
theorem size_build (t : Bool) (r : Rx) : (buildR t r).size ≤ 2 * r.size := by
  refine rx_ind (P:=fun r=>(buildR t r).size≤2*r.size) (fun r ih=>?_) r
  have hm:=sizes_map_le ih
  have e:=size_eq r
  by_cases h3:r.kind=3
  · cases t with
    | false=>rw [buildR_3f h3];have:=size_seqN (r.kids.map (buildR false));omega
    | true=>rw [buildR_3t h3];have:=size_seqN (r.kids.map (buildR true)).reverse;rw [sizes_rev] at this;omega
  · by_cases h4 : r.kind = 4
    · rw [buildR_4 h4];have:=size_altN (r.kids.map (buildR t));omega
    · by_cases h5 : r.kind = 5
      · rw [buildR_5 h5]
        have:=size_starN ((r.kids.map (buildR t)).getD 0 default)
        by_cases h0:0<r.kids.length
        · have := size_mem (kid_mem (l := r.kids.map (buildR t)) (i := 0) (by rw [List.length_map]; exact h0))
          omega
        · rw [List.eq_nil_of_length_eq_zero (l := r.kids) (by omega)] at this ⊢
          have h6:((List.map (buildR t) []).getD 0 default).size=1:=rfl
          omega
      · rw [buildR_x h3 h4 h5,size_mk];simp only [Rx.sizes];omega
theorem sizes_build (t:Bool) (l:List Rx):Rx.sizes (l.map (buildR t))≤2*Rx.sizes l:=sizes_map_le fun x _=>size_build t x
end Go.Wb

namespace Go.Wb
open Go.Am
def lbI (a:Int) (s:List Int):Nat:=s.findIdx fun x=>decide (a≤x)
theorem lb_is {a:Int} {s:List Int} {i:Nat} (hi:i≤s.length) (h1:∀ k,k<i→s.getD k default<a) (h2:i<s.length→a≤s.getD i default):i=lbI a s:=by
  rcases Nat.lt_or_ge i s.length with h|h
  · refine ((List.findIdx_eq h).2 ⟨?_, fun j hj => ?_⟩).symm
    · have:=h2 h;rw [getD_el h] at this;exact decide_eq_true this
    · have:=h1 j hj;rw [getD_el (by omega)] at this;exact decide_eq_false (by omega)
  · have hi' : i = s.length := by omega
    subst hi'
    refine (List.findIdx_eq_length.2 fun x hx=>?_).symm
    obtain ⟨j,hj,e⟩:=List.getElem_of_mem hx
    have:=h1 j hj
    rw [getD_el hj,e] at this
    exact decide_eq_false (by omega)
theorem lb_yes {a:Int} {s:List Int} {i:Nat} (hi:i<s.length) (h:s.getD i default=a):a∈s:=by rw [← h,getD_el hi];exact List.getElem_mem hi
theorem lb_no {a:Int} {s:List Int} {i:Nat} (hs:Srt leI s) (h1:∀ k,k<i→s.getD k default<a) (h2:i<s.length→a≤s.getD i default) (h:i<s.length→s.getD i default≠a):¬ a∈s:=by
  intro hm
  obtain ⟨j,hj,e⟩:=List.getElem_of_mem hm
  rw [← getD_el hj] at e
  rcases Nat.lt_trichotomy j i with q|q|q
  · have:=h1 j q;omega
  · subst q;exact h hj e
  · have h3 := pair_getD hs q hj
    have h4:=of_decide_eq_true h3.1
    have:=h2 (by omega)
    have:=h3.2
    omega
mutual
def dR (a:Int):Rx→Rx
  | .mk k s l=>if k=2 then (if a∈s then emptyRx else noneRx) else if k=4 then altN (dRs a l) else if k=3 then altN (dRq a l) else if k=5 then seqN [(dRs a l).getD 0 default,.mk k s l] else noneRx
def dRs (a:Int):List Rx→List Rx
  | []=>[]
  | x :: l=>dR a x :: dRs a l
def dRq (a:Int):List Rx→List Rx
  | []=>[]
  | x :: l=>seqN [dR a x,seqN l] :: (if accR x=true then dRq a l else [])
end
theorem dRs_map (a:Int):∀ l:List Rx,dRs a l=l.map (dR a)
  | []=>by rw [dRs];rfl
  | x :: l=>by rw [dRs,dRs_map a l];rfl
theorem dR_eq (a:Int) (r:Rx):dR a r=if r.kind=2 then (if a∈r.syms then emptyRx else noneRx) else if r.kind=4 then altN (r.kids.map (dR a)) else if r.kind=3 then altN (dRq a r.kids) else
    if r.kind=5 then seqN [(r.kids.map (dR a)).getD 0 default,r] else noneRx:=by
  cases r with|mk k s l=>rw [dR,dRs_map];rfl
theorem altN_nil:altN []=noneRx:=by
  rfl
def dL (a:Int) (r:Rx):List Rx:=if r.kind=4 then r.kids.map (dR a) else if r.kind=3 then dRq a r.kids else []
theorem dL_4 {a:Int} {r:Rx} (h:r.kind=4):dL a r=r.kids.map (dR a):=if_pos h
theorem dL_3 {a:Int} {r:Rx} (h:r.kind=3):dL a r=dRq a r.kids:=by unfold dL;rw [if_neg (by omega),if_pos h]
theorem dL_x {a:Int} {r:Rx} (h:r.kind≠4) (h3:r.kind≠3):dL a r=[]:=by unfold dL;rw [if_neg h,if_neg h3]
theorem dR_2 {a:Int} {r:Rx} (h:r.kind=2) (hm:a∈r.syms):dR a r=emptyRx:=by rw [dR_eq,if_pos h,if_pos hm]
theorem dR_5 {a:Int} {r:Rx} (h:r.kind=5):dR a r=seqN [(r.kids.map (dR a)).getD 0 default,r]:=by rw [dR_eq,if_neg (by omega),if_neg (by omega),if_neg (by omega),if_pos h]
theorem dR_5k {a:Int} {r:Rx} (h:r.kind=5) (h0:0<r.kids.length):dR a r=seqN [dR a (r.kids.getD 0 default),r]:=by rw [dR_5 h,getD_map h0]
theorem dR_x {a:Int} {r:Rx} (h5:r.kind≠5) (h2:r.kind=2→¬ a∈r.syms):dR a r=altN (dL a r):=by
  rw [dR_eq]
  by_cases h:r.kind=2
  · rw [if_pos h,if_neg (h2 h),dL_x (by omega) (by omega),altN_nil]
  · rw [if_neg h]
    by_cases h4:r.kind=4
    · rw [if_pos h4,dL_4 h4]
    · rw [if_neg h4]
      by_cases h3:r.kind=3
      · rw [if_pos h3,dL_3 h3]
      · rw [if_neg h3,if_neg h5,dL_x h4 h3,altN_nil]
def dQ (a:Int) (l:List Rx) (i:Nat):Rx:=seqN [dR a (l.getD i default),seqN (l.drop (i+1))]
theorem dRq_drop {a:Int} {l:List Rx} {i:Nat} (h:i<l.length):dRq a (l.drop i)=dQ a l i :: (if accR (l.getD i default)=true then dRq a (l.drop (i+1)) else []):=by
  rw [drop_cons h,dRq];rfl
theorem dRq_upto {a:Int} {l:List Rx}:∀ i,i≤l.length→(∀ j,j<i→accR (l.getD j default)=true)→dRq a l=(List.range i).map (dQ a l)++dRq a (l.drop i)
  | 0,_,_=>by simp
  | i + 1, hi, h => by
    rw [dRq_upto i (by omega) fun j hj=>h j (by omega),dRq_drop (by omega),if_pos (h i (by omega)),List.range_succ,List.map_append,List.append_assoc];rfl
theorem dRq_end {a:Int} {l:List Rx} {i:Nat} (hi:i=l.length) (h:∀ j,j<i→accR (l.getD j default)=true):dRq a l=(List.range i).map (dQ a l):=by
  rw [dRq_upto i (by omega) h,hi,List.drop_length,dRq,List.append_nil]
theorem dRq_stop {a:Int} {l:List Rx} {i:Nat} (hi:i<l.length) (h:∀ j,j<i→accR (l.getD j default)=true) (hn:accR (l.getD i default)=false):dRq a l=(List.range (i+1)).map (dQ a l):=by
  rw [dRq_upto i (by omega) h,dRq_drop hi,if_neg (by rw [hn];decide),List.range_succ,List.map_append];rfl
mutual
def dSz:Rx→Nat
  | .mk k s l=>if k=4 then 2+dSzs l else if k=3 then 2+dSzq l else if k=5 then 2+dSzs l+(Rx.mk k s l).size else 2
def dSzs:List Rx→Nat
  | []=>0
  | x :: l=>dSz x+dSzs l
def dSzq:List Rx→Nat
  | []=>0
  | x :: l=>2+dSz x+Rx.sizes l+(if accR x=true then dSzq l else 0)
end
theorem dSz_eq (r:Rx):dSz r=if r.kind=4 then 2+dSzs r.kids else if r.kind=3 then 2+dSzq r.kids else if r.kind=5 then 2+dSzs r.kids+r.size else 2:=by
  cases r with|mk k s l=>rw [dSz];rfl
theorem seqN_two (x y:Rx):(seqN [x,y]).size≤1+x.size+y.size:=by
  have:=size_seqN [x,y]
  simp only [Rx.sizes] at this;omega
theorem dSz_mem {l:List Rx} {x:Rx} (h:x∈l):dSz x≤dSzs l:=by
  induction l with
  | nil=>cases h
  | cons y l ih =>
    rw [dSzs]
    rcases List.mem_cons.1 h with rfl|h
    · omega
    · have:=ih h;omega
theorem dSz_spec (a : Int) (r : Rx) : (dR a r).size ≤ dSz r := by
  refine rx_ind (P:=fun r=>(dR a r).size≤dSz r) (fun r ih=>?_) r
  have hs:∀ l:List Rx,(∀ x∈l,(dR a x).size≤dSz x)→Rx.sizes (l.map (dR a))≤dSzs l:=by
    intro l
    induction l with
    | nil=>intro _;exact Nat.le_refl _
    | cons x l ihl =>
      intro h
      have h1:=ihl fun y hy=>h y (List.mem_cons_of_mem _ hy)
      have h2:=h x List.mem_cons_self
      rw [List.map_cons,Rx.sizes,dSzs];omega
  have hq:∀ l:List Rx,(∀ x∈l,(dR a x).size≤dSz x)→Rx.sizes (dRq a l)≤dSzq l:=by
    intro l
    induction l with
    | nil=>intro _;rw [dRq];exact Nat.le_refl _
    | cons x l ihl =>
      intro h
      have h1:=ihl fun y hy=>h y (List.mem_cons_of_mem _ hy)
      have h2:=h x List.mem_cons_self
      have h3:=seqN_two (dR a x) (seqN l)
      have h4:=size_seqN l
      rw [dRq,Rx.sizes,dSzq]
      split
      · omega
      · rw [show Rx.sizes []=0 from rfl];omega
  have h1:=hs r.kids ih
  have h2:=hq r.kids ih
  rw [dR_eq,dSz_eq]
  by_cases h:r.kind=2
  · rw [if_pos h, if_neg (show ¬ r.kind = 4 by omega), if_neg (show ¬ r.kind = 3 by omega), if_neg (show ¬ r.kind = 5 by omega)]
    split<;>rw [size_mk]<;>simp only [List.length_nil,Rx.sizes]<;>omega
  · rw [if_neg h]
    by_cases h4:r.kind=4
    · rw [if_pos h4,if_pos h4];have:=size_altN (r.kids.map (dR a));omega
    · rw [if_neg h4, if_neg h4]
      by_cases h3:r.kind=3
      · rw [if_pos h3,if_pos h3];have:=size_altN (dRq a r.kids);omega
      · rw [if_neg h3, if_neg h3]
        by_cases h5:r.kind=5
        · rw [if_pos h5, if_pos h5]
          have h6:=seqN_two ((r.kids.map (dR a)).getD 0 default) r
          by_cases h0:0<r.kids.length
          · have:=size_mem (kid_mem (l:=r.kids.map (dR a)) (i:=0) (by rw [List.length_map];exact h0));omega
          · rw [List.eq_nil_of_length_eq_zero (l := r.kids) (by omega)] at h6 ⊢
            have h7:((List.map (dR a) []).getD 0 default).size=1:=rfl
            omega
        · rw [if_neg h5,if_neg h5,size_mk];simp only [List.length_nil,Rx.sizes];omega
theorem dSzs_sizes (a:Int):∀ l:List Rx,Rx.sizes (l.map (dR a))≤dSzs l
  | []=>Nat.le_refl _
  | x :: l => by
    have h1:=dSzs_sizes a l
    have h2:=dSz_spec a x
    rw [List.map_cons,Rx.sizes,dSzs];omega
theorem dSzq_sizes (a:Int):∀ l:List Rx,Rx.sizes (dRq a l)≤dSzq l
  | []=>by rw [dRq];exact Nat.le_refl _
  | x :: l => by
    have h1:=dSzq_sizes a l
    have h2:=dSz_spec a x
    have h3:=seqN_two (dR a x) (seqN l)
    have h4:=size_seqN l
    rw [dRq,Rx.sizes,dSzq]
    split
    · omega
    · rw [show Rx.sizes []=0 from rfl];omega
theorem dSzq_get:∀ {l:List Rx} {i:Nat},i<l.length→(∀ j,j<i→accR (l.getD j default)=true)→2+dSz (l.getD i default)+Rx.sizes (l.drop (i+1))≤dSzq l
  | x :: l, 0, _, _ => by
    rw [dSzq]
    show 2+dSz x+Rx.sizes l≤_
    omega
  | x :: l, i + 1, h, ha => by
    have h1:=dSzq_get (l:=l) (i:=i) (by simpa using h) fun j hj=>ha (j+1) (by omega)
    have h2:accR x=true:=ha 0 (by omega)
    rw [dSzq,if_pos h2]
    show 2+dSz (l.getD i default)+Rx.sizes (l.drop (i+1))≤_
    omega
theorem dSz_4 {r:Rx} (h:r.kind=4) {i:Nat} (hi:i<r.kids.length):dSz (r.kids.getD i default)≤dSz r∧dSzs r.kids≤dSz r:=by
  have:=dSz_mem (kid_mem hi)
  rw [dSz_eq r,if_pos h];omega
theorem dSz_4s {r:Rx} (h:r.kind=4):dSzs r.kids≤dSz r:=by rw [dSz_eq r,if_pos h];omega
theorem dSz_3s {r:Rx} (h:r.kind=3):dSzq r.kids≤dSz r:=by rw [dSz_eq r,if_neg (by omega),if_pos h];omega
theorem dSz_3 {r:Rx} (h:r.kind=3) {i:Nat} (hi:i<r.kids.length) (ha:∀ j,j<i→accR (r.kids.getD j default)=true):2+dSz (r.kids.getD i default)+Rx.sizes (r.kids.drop (i+1))≤dSz r:=by
  have:=dSzq_get hi ha
  have:=dSz_3s h
  omega
theorem dSz_5 {r:Rx} (h:r.kind=5) (h0:0<r.kids.length):2+dSz (r.kids.getD 0 default)+r.size≤dSz r:=by
  have:=dSz_mem (kid_mem h0)
  rw [dSz_eq r,if_neg (by omega),if_neg (by omega),if_pos h];omega
theorem dL_sizes (a:Int) (r:Rx):Rx.sizes (dL a r)≤dSz r:=by
  by_cases h4:r.kind=4
  · rw [dL_4 h4];have:=dSzs_sizes a r.kids;have:=dSz_4s h4;omega
  · by_cases h3 : r.kind = 3
    · rw [dL_3 h3];have:=dSzq_sizes a r.kids;have:=dSz_3s h3;omega
    · rw [dL_x h4 h3];exact Nat.zero_le _
theorem mid_eq {i j:Nat} (h:i+j<4611686018427387904):IntKind.i64.wrap ((IntKind.u64.wrap ((i:Int)+j)).fdiv (2 ^ (min (1:Int).toNat IntKind.u64.bits)))=(((i+j) / 2:Nat):Int):=by
  have h1:IntKind.u64.wrap ((i:Int)+j)=(i:Int)+j:=by simp [IntKind.wrap,IntKind.signed,IntKind.bits];omega
  have h2:∀ n:Int,0≤n→n<4611686018427387904→IntKind.i64.wrap n=n:=fun n h0 h1=>by
    simp [IntKind.wrap,IntKind.signed,IntKind.bits];omega
  rw [h1,show (min (1:Int).toNat IntKind.u64.bits)=1 from rfl,Int.fdiv_eq_ediv_of_nonneg _ (by decide),h2 _ (by omega) (by omega)]
  omega
end Go.Wb

namespace Go.Wb
open Go.Am
theorem nf_valid {x:Rx} (h:Nf x):validR x=true:=by
  induction h with
  | none=>rw [validR_01 (.inl rfl)];rfl
  | empty=>rw [validR_01 (.inr rfl)];rfl
  | set h=>rw [validR_2 rfl,show setOk (Rx.syms (.mk 2 _ []))=true from h];rfl
  | seq h1 h2 h3 ih =>
    rw [validR_34 (.inl rfl)]
    show (true&&!(List.any _ _))=true
    rw [Bool.true_and,Bool.not_eq_true',List.any_eq_false]
    exact fun x hx=>by rw [ih x hx];decide
  | alt h1 h2 h3 h4 h5 h6 ih =>
    rw [validR_34 (.inr rfl)]
    show (true&&!(List.any _ _))=true
    rw [Bool.true_and,Bool.not_eq_true',List.any_eq_false]
    exact fun x hx=>by rw [ih x hx];decide
  | star h1 h2 h3 ih =>
    rw [validR_5 rfl]
    show (true&&(true&&validR _))=true
    rw [Bool.true_and,Bool.true_and];exact ih
def simR (r:Rx):Rx:=if validR r=true then buildR false r else noneRx
def revR (r:Rx):Rx:=if validR r=true then buildR true r else noneRx
theorem simR_nf (r:Rx):Nf (simR r):=by
  unfold simR;split
  · next h=>exact build_nf false r h
  · exact .none
def mtR (r:Rx) (w:List Int) (k:Nat):Rx:=(w.take k).foldl (fun x a=>dR a x) (simR r)
def matchR (r:Rx) (w:List Int):Bool:=accR (mtR r w w.length)
theorem size_simR (r:Rx):(simR r).size≤2*r.size:=by
  unfold simR;split
  · exact size_build false r
  · have:=size_pos r;rw [size_mk];simp only [List.length_nil,Rx.sizes];omega
end Go.Wb

namespace Go.Wd
open Go.Am Go.Wb
instance instDecEqRx:DecidableEq Rx:=fun a b=>decidable_of_iff _ (eqR_iff a b)
section
variable {K:Type} [DecidableEq K] {kv:K→Value} {l:List K} {k:K}
theorem look_s (hk:∀ b∈l,kv b=kv k→b=k):mlook (int 0) (l.map kv) (vsC l.length) (kv k)=natI (if k∈l then idx l k else 0):=by
  by_cases q:k∈l
  · rw [if_pos q,mlook_map hk q];rfl
  · rw [if_neg q,mlook_not hk q];rfl
theorem has_s (hk:∀ b∈l,kv b=kv k→b=k):mhas (l.map kv) (kv k)=decide (k∈l):=(mhas_map hk).trans (decide_eq_decide.2 Iff.rfl)
theorem put_ks (hk:∀ b∈l,kv b=kv k→b=k) (q:k ∉ l):Go.Am.putK (l.map kv) (kv k)=(l++[k]).map kv:=putK_map hk q
theorem put_vs (hk:∀ b∈l,kv b=kv k→b=k) (q:k ∉ l):Go.Am.putV (l.map kv) (vsC l.length) (kv k) (natI l.length)=vsC (l++[k]).length:=by
  rw [putV_map hk q,vs_snoc,List.length_append];rfl
theorem add_k (hk:∀ b∈l,kv b=kv k→b=k):Go.Am.putK (l.map kv) (kv k)=(addK l k).map kv:=by
  unfold addK
  by_cases q:k∈l
  · rw [if_pos q];unfold Go.Am.putK;rw [kpos_map hk,if_pos q]
  · rw [if_neg q,putK_map hk q]
theorem add_v {f:K→AV} (hk:∀ b∈l,kv b=kv k→b=k):Go.Am.putV (l.map kv) (l.map f) (kv k) (f k)=(addK l k).map f:=by
  unfold addK
  by_cases q:k∈l
  · rw [if_pos q]; unfold Go.Am.putV; rw [kpos_map hk, if_pos q]
    simp only []
    have hlt:=List.idxOf_lt_length_of_mem q
    refine List.ext_getElem (by simp) fun i h1 h2=>?_
    rw [List.getElem_set]
    split
    · rename_i e
      subst e
      rw [List.getElem_map,List.getElem_idxOf]
    · rfl
  · rw [if_neg q,putV_map hk q,List.map_append];rfl
theorem at_k (hk:∀ b∈l,kv b=kv k→b=k) (q:k∈l):kpos (l.map kv) (kv k)=some (l.idxOf k):=by rw [kpos_map hk,if_pos q]
theorem at_v {f:K→AV} (q:k∈l):(l.map f)[l.idxOf k]?=some (f k):=by
  rw [List.getElem?_map,List.getElem?_eq_getElem (List.idxOf_lt_length_of_mem q),List.getElem_idxOf];rfl
end
def kvR (x:Rx):Value:=strI (tx x)
abbrev encR (x:Rx):AV:=.sc (kvR x)
def nxR (x:Rx) (s:Nat):Rx:=simR (dR (s:Int) (simR x))
def fnR (x:Rx):Bool:=validR x&&accR x
end Go.Wd

namespace Go.Proofs
open Go.Shelf
def Tryz.sortR_ren:Go.Shelf.Ren:=⟨fun|6=>118|15=>127|14=>128|28=>142|29=>143|20=>144|21=>145|22=>146|23=>147|24=>148|25=>149|26=>150|27=>151|46=>157|47=>153|48=>154|49=>158|50=>159|57=>161|n=>n,fun|22=>23|24=>25|25=>121|3=>3|39=>118|0=>0|53=>144|55=>45|4=>4|46=>138|45=>137|50=>99|5=>5|9=>9|66=>151|70=>155|76=>159|77=>160|n=>n,fun|n=>n⟩
theorem Tryz.sortR:Go.Proofs.SlLaysF0.n6 Tryz.prog Tryz.sortR_ren:={
  mixed:=by kernel_rfl
  f6:=⟨Tryz.f118.name,by decide,Tryz.func118.trans (congrArg some (by kernel_rfl))⟩
  f14:=⟨Tryz.f128.name,by decide,Tryz.func128.trans (congrArg some (by kernel_rfl))⟩
  f15:=Tryz.func127.trans (congrArg some (by kernel_rfl))
  f20:=⟨Tryz.f144.name,by decide,Tryz.func144.trans (congrArg some (by kernel_rfl))⟩
  f21:=⟨Tryz.f145.name,by decide,Tryz.func145.trans (congrArg some (by kernel_rfl))⟩
  f22:=⟨Tryz.f146.name,by decide,Tryz.func146.trans (congrArg some (by kernel_rfl))⟩
  f23:=⟨Tryz.f147.name,by decide,Tryz.func147.trans (congrArg some (by kernel_rfl))⟩
  f24:=⟨Tryz.f148.name,by decide,Tryz.func148.trans (congrArg some (by kernel_rfl))⟩
  f25:=⟨Tryz.f149.name,by decide,Tryz.func149.trans (congrArg some (by kernel_rfl))⟩
  f26:=⟨Tryz.f150.name,by decide,Tryz.func150.trans (congrArg some (by kernel_rfl))⟩
  f27:=⟨Tryz.f151.name,by decide,Tryz.func151.trans (congrArg some (by kernel_rfl))⟩
  f28:=Tryz.func142.trans (congrArg some (by kernel_rfl))
  f29:=Tryz.func143.trans (congrArg some (by kernel_rfl))
  f46:=⟨Tryz.f157.name,by decide,Tryz.func157.trans (congrArg some (by kernel_rfl))⟩
  f47:=Tryz.func153.trans (congrArg some (by kernel_rfl))
  f48:=Tryz.func154.trans (congrArg some (by kernel_rfl))
  f49:=⟨Tryz.f158.name,by decide,Tryz.func158.trans (congrArg some (by kernel_rfl))⟩
  f50:=⟨Tryz.f159.name,by decide,Tryz.func159.trans (congrArg some (by kernel_rfl))⟩
  f57:=⟨Tryz.f161.name,by decide,Tryz.func161.trans (congrArg some (by kernel_rfl))⟩
  t0:=Tryz.underlying0
  a0:=Tryz.isAgg0
  z0:=Tryz.sizeOf0
  v0:=Tryz.zeroValue0
  t3:=Tryz.underlying3
  a3:=Tryz.isAgg3
  z3:=Tryz.sizeOf3
  v3:=Tryz.zeroValue3
  t4:=Tryz.underlying4
  a4:=Tryz.isAgg4
  z4:=Tryz.sizeOf4
  v4:=Tryz.zeroValue4
  t5:=Tryz.underlying5
  a5:=Tryz.isAgg5
  z5:=Tryz.sizeOf5
  v5:=Tryz.zeroValue5
  t9:=Tryz.underlying9
  a9:=Tryz.isAgg9
  z9:=Tryz.sizeOf9
  v9:=Tryz.zeroValue9
  t22:=Tryz.underlying23
  a22:=Tryz.isAgg23
  z22:=Tryz.sizeOf23
  v22:=Tryz.zeroValue23
  t25:=Tryz.underlying121
  a25:=Tryz.isAgg121
  z25:=Tryz.sizeOf121
  v25:=Tryz.zeroValue121
  t39:=Tryz.underlying118
  a39:=Tryz.isAgg118
  z39:=Tryz.sizeOf118
  v39:=Tryz.zeroValue118
  t45:=Tryz.underlying137
  a45:=Tryz.isAgg137
  z45:=Tryz.sizeOf137
  v45:=Tryz.zeroValue137
  t46:=Tryz.underlying138
  a46:=Tryz.isAgg138
  z46:=Tryz.sizeOf138
  v46:=Tryz.zeroValue138
  t50:=Tryz.underlying99
  a50:=Tryz.isAgg99
  z50:=Tryz.sizeOf99
  v50:=Tryz.zeroValue99
  t53:=Tryz.underlying144
  a53:=Tryz.isAgg144
  z53:=Tryz.sizeOf144
  v53:=Tryz.zeroValue144
  t55:=Tryz.underlying45
  a55:=Tryz.isAgg45
  z55:=Tryz.sizeOf45
  v55:=Tryz.zeroValue45
  t66:=Tryz.underlying151
  a66:=Tryz.isAgg151
  z66:=Tryz.sizeOf151
  v66:=Tryz.zeroValue151
  t70:=Tryz.underlying155
  a70:=Tryz.isAgg155
  z70:=Tryz.sizeOf155
  v70:=Tryz.zeroValue155
  t76:=Tryz.underlying159
  a76:=Tryz.isAgg159
  z76:=Tryz.sizeOf159
  v76:=Tryz.zeroValue159
  t77:=Tryz.underlying160
  a77:=Tryz.isAgg160
  z77:=Tryz.sizeOf160
  v77:=Tryz.zeroValue160 }
def Tryz.sortZ_ren:Go.Shelf.Ren:=⟨fun|5=>116|8=>127|7=>126|19=>142|20=>143|10=>134|11=>135|12=>136|13=>137|14=>138|15=>139|16=>122|17=>140|18=>141|30=>152|31=>153|32=>154|33=>155|34=>156|35=>133|40=>160|n=>n,fun|23=>22|25=>3|3=>3|32=>118|22=>22|0=>0|44=>144|46=>45|4=>4|36=>138|35=>137|41=>99|5=>5|9=>9|53=>151|57=>155|63=>159|64=>160|n=>n,fun|n=>n⟩
theorem Tryz.sortZ:Go.Proofs.SlLaysM.n5 Tryz.prog Tryz.sortZ_ren:={
  mixed:=by kernel_rfl
  f5:=⟨Tryz.f116.name,by decide,Tryz.func116.trans (congrArg some (by kernel_rfl))⟩
  f7:=⟨Tryz.f126.name,by decide,Tryz.func126.trans (congrArg some (by kernel_rfl))⟩
  f8:=Tryz.func127.trans (congrArg some (by kernel_rfl))
  f10:=⟨Tryz.f134.name,by decide,Tryz.func134.trans (congrArg some (by kernel_rfl))⟩
  f11:=⟨Tryz.f135.name,by decide,Tryz.func135.trans (congrArg some (by kernel_rfl))⟩
  f12:=⟨Tryz.f136.name,by decide,Tryz.func136.trans (congrArg some (by kernel_rfl))⟩
  f13:=⟨Tryz.f137.name,by decide,Tryz.func137.trans (congrArg some (by kernel_rfl))⟩
  f14:=⟨Tryz.f138.name,by decide,Tryz.func138.trans (congrArg some (by kernel_rfl))⟩
  f15:=⟨Tryz.f139.name,by decide,Tryz.func139.trans (congrArg some (by kernel_rfl))⟩
  f16:=⟨Tryz.f122.name,by decide,Tryz.func122.trans (congrArg some (by kernel_rfl))⟩
  f17:=⟨Tryz.f140.name,by decide,Tryz.func140.trans (congrArg some (by kernel_rfl))⟩
  f18:=⟨Tryz.f141.name,by decide,Tryz.func141.trans (congrArg some (by kernel_rfl))⟩
  f19:=Tryz.func142.trans (congrArg some (by kernel_rfl))
  f20:=Tryz.func143.trans (congrArg some (by kernel_rfl))
  f30:=⟨Tryz.f152.name,by decide,Tryz.func152.trans (congrArg some (by kernel_rfl))⟩
  f31:=Tryz.func153.trans (congrArg some (by kernel_rfl))
  f32:=Tryz.func154.trans (congrArg some (by kernel_rfl))
  f33:=⟨Tryz.f155.name,by decide,Tryz.func155.trans (congrArg some (by kernel_rfl))⟩
  f34:=⟨Tryz.f156.name,by decide,Tryz.func156.trans (congrArg some (by kernel_rfl))⟩
  f35:=⟨Tryz.f133.name,by decide,Tryz.func133.trans (congrArg some (by kernel_rfl))⟩
  f40:=⟨Tryz.f160.name,by decide,Tryz.func160.trans (congrArg some (by kernel_rfl))⟩
  t0:=Tryz.underlying0
  a0:=Tryz.isAgg0
  z0:=Tryz.sizeOf0
  v0:=Tryz.zeroValue0
  t3:=Tryz.underlying3
  a3:=Tryz.isAgg3
  z3:=Tryz.sizeOf3
  v3:=Tryz.zeroValue3
  t4:=Tryz.underlying4
  a4:=Tryz.isAgg4
  z4:=Tryz.sizeOf4
  v4:=Tryz.zeroValue4
  t5:=Tryz.underlying5
  a5:=Tryz.isAgg5
  z5:=Tryz.sizeOf5
  v5:=Tryz.zeroValue5
  t9:=Tryz.underlying9
  a9:=Tryz.isAgg9
  z9:=Tryz.sizeOf9
  v9:=Tryz.zeroValue9
  t22:=Tryz.underlying22
  a22:=Tryz.isAgg22
  z22:=Tryz.sizeOf22
  v22:=Tryz.zeroValue22
  t23:=Tryz.underlying22
  a23:=Tryz.isAgg22
  z23:=Tryz.sizeOf22
  v23:=Tryz.zeroValue22
  t25:=Tryz.underlying3
  a25:=Tryz.isAgg3
  z25:=Tryz.sizeOf3
  v25:=Tryz.zeroValue3
  t32:=Tryz.underlying118
  a32:=Tryz.isAgg118
  z32:=Tryz.sizeOf118
  v32:=Tryz.zeroValue118
  t35:=Tryz.underlying137
  a35:=Tryz.isAgg137
  z35:=Tryz.sizeOf137
  v35:=Tryz.zeroValue137
  t36:=Tryz.underlying138
  a36:=Tryz.isAgg138
  z36:=Tryz.sizeOf138
  v36:=Tryz.zeroValue138
  t41:=Tryz.underlying99
  a41:=Tryz.isAgg99
  z41:=Tryz.sizeOf99
  v41:=Tryz.zeroValue99
  t44:=Tryz.underlying144
  a44:=Tryz.isAgg144
  z44:=Tryz.sizeOf144
  v44:=Tryz.zeroValue144
  t46:=Tryz.underlying45
  a46:=Tryz.isAgg45
  z46:=Tryz.sizeOf45
  v46:=Tryz.zeroValue45
  t53:=Tryz.underlying151
  a53:=Tryz.isAgg151
  z53:=Tryz.sizeOf151
  v53:=Tryz.zeroValue151
  t57:=Tryz.underlying155
  a57:=Tryz.isAgg155
  z57:=Tryz.sizeOf155
  v57:=Tryz.zeroValue155
  t63:=Tryz.underlying159
  a63:=Tryz.isAgg159
  z63:=Tryz.sizeOf159
  v63:=Tryz.zeroValue159
  t64:=Tryz.underlying160
  a64:=Tryz.isAgg160
  z64:=Tryz.sizeOf160
  v64:=Tryz.zeroValue160 }
def Tryz.revR_ren:Go.Shelf.Ren:=⟨fun|35=>104|n=>n,fun|22=>23|23=>25|3=>3|4=>4|0=>0|n=>n,fun|n=>n⟩
theorem Tryz.revR:Go.Proofs.SlLaysE0.n35 Tryz.prog Tryz.revR_ren:={
  mixed:=by kernel_rfl
  f35:=⟨Tryz.f104.name,by decide,Tryz.func104.trans (congrArg some (by kernel_rfl))⟩
  t0:=Tryz.underlying0
  a0:=Tryz.isAgg0
  z0:=Tryz.sizeOf0
  v0:=Tryz.zeroValue0
  t3:=Tryz.underlying3
  a3:=Tryz.isAgg3
  z3:=Tryz.sizeOf3
  v3:=Tryz.zeroValue3
  t4:=Tryz.underlying4
  a4:=Tryz.isAgg4
  z4:=Tryz.sizeOf4
  v4:=Tryz.zeroValue4
  t22:=Tryz.underlying23
  a22:=Tryz.isAgg23
  z22:=Tryz.sizeOf23
  v22:=Tryz.zeroValue23 }
end Go.Proofs

