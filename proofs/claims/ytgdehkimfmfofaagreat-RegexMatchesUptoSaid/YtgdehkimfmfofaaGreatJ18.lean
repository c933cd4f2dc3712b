/-
  Plain functions: the reference's repetitions and normal forms,step by step.
-/
import Derived.Test.YtgdehkimfmfofaaGreatJ17
import Derived.Lib.IndexAny
import Derived.Test.YtgdehkimfmfofaaGreatRows
import Derived.Shelf.Strings.OnBuilder
import Derived.Ground.NamesProg
import Derived.Lib.Join
import Derived.Test.YtgdehkimfmfofaaGreatJ15
import Derived.Test.YtgdehkimfmfofaaGreatJ11
set_option linter.unusedVariables false
set_option linter.unusedSectionVars false
set_option linter.unusedSimpArgs false
namespace Go.Wb
open Go.Am Go.Wc
structure SetT where
  name:List UInt8
  syms:List Int
instance:Inhabited SetT:=⟨⟨[],[]⟩⟩
abbrev setA (x:SetT):AV:=.agg [sbytes x.name,ints x.syms]
abbrev setsA (l:List SetT):AV:=.sl (l.map setA)
def preB (s t:List UInt8):Bool:=decide (t.length≤s.length)&&decide (s.take t.length=t)
theorem indexByte_lt:∀ {l:List UInt8} {c:UInt8},Lib.indexByte l c<l.length∧-1≤Lib.indexByte l c
  | [],c=>by unfold Lib.indexByte;exact ⟨by decide,by decide⟩
  | b :: l, c => by
    have h:=indexByte_lt (l:=l) (c:=c)
    unfold Lib.indexByte
    rw [List.length_cons]
    split
    · omega
    · split<;>omega
def cutB (s:List UInt8) (c:UInt8):List UInt8:=if 0≤Lib.indexByte s c then s.take (Lib.indexByte s c).toNat else s
def cutA (s:List UInt8) (c:UInt8):List UInt8:=if 0≤Lib.indexByte s c then s.drop (Lib.indexByte s c+1).toNat else []
def bestN (a:List Letter) (t:List UInt8):Nat→Nat×Nat
  | 0=>(0,0)
  | i+1=>if (bestN a t i).2<(a.getD i default).text.length∧preB t (a.getD i default).text=true then (i,(a.getD i default).text.length) else bestN a t i
def oneR (l:List Int):Rx:=.mk 2 l []
def nameB (t:List UInt8):List UInt8:=cutB (t.drop 1) 125
def tokAt (a : List Letter) (sets : List SetT) (t : List UInt8) : Int × Rx × Nat :=
  if 0<(bestN a t a.length).2 then (97,oneR [((bestN a t a.length).1:Int)],(bestN a t a.length).2)
  else if ((t.getD 0 default).toNat:Int)=46 then (97,oneR ((List.range a.length).map fun (k:Nat)=>(k:Int)),1)
  else if ((t.getD 0 default).toNat:Int)=45 then (97,oneR [63],1)
  else if ((t.getD 0 default).toNat:Int)=35 then (97,oneR [62],1)
  else if 0≤Lib.indexByte [124,40,41,42,63] (t.getD 0 default) then (((t.getD 0 default).toNat:Int),noneRx,1)
  else if ((t.getD 0 default).toNat:Int)≠123∨Lib.indexByte (t.drop 1) 125<0 then (0,noneRx,0)
  else if nameB t=[] then (97,noneRx,2)
  else if 0≤idxF (fun x:SetT=>decide (x.name=nameB t)) sets∧setOk (sets.getD (idxF (fun x:SetT=>decide (x.name=nameB t)) sets).toNat default).syms=true then
    (97,oneR (sets.getD (idxF (fun x:SetT=>decide (x.name=nameB t)) sets).toNat default).syms,(nameB t).length+2)
  else (0,noneRx,0)
def tokN (a:List Letter) (sets:List SetT) (s:List UInt8):Nat→Nat→List Tok
  | 0,at_=>[⟨101,noneRx,at_⟩]
  | n+1,at_=>if at_<s.length then (if (tokAt a sets (s.drop at_)).1=0 then [⟨0,noneRx,at_⟩] else ⟨(tokAt a sets (s.drop at_)).1,(tokAt a sets (s.drop at_)).2.1,at_⟩ :: tokN a sets s n (at_+(tokAt a sets (s.drop at_)).2.2)) else [⟨101,noneRx,at_⟩]
def toksP (a:List Letter) (sets:List SetT) (s:List UInt8):List Tok:=tokN a sets s s.length 0
section
variable {a:List Letter} {sets:List SetT} {s t:List UInt8}
theorem tokN_end {n k:Nat} (h:s.length≤k):tokN a sets s n k=[⟨101,noneRx,k⟩]:=by
  cases n with
  | zero=>rfl
  | succ n=>rw [tokN,if_neg (by omega)]
theorem tokN_bad {n k:Nat} (h:k<s.length) (h0:(tokAt a sets (s.drop k)).1=0):tokN a sets s (n+1) k=[⟨0,noneRx,k⟩]:=by rw [tokN,if_pos h,if_pos h0]
theorem tokN_ok {n k m:Nat} {c:Int} {x:Rx} (h:k<s.length) (h1:tokAt a sets (s.drop k)=(c,x,m)) (h0:c≠0):tokN a sets s (n+1) k=⟨c,x,k⟩ :: tokN a sets s n (k+m):=by
  rw [tokN,if_pos h,h1,if_neg h0]
theorem bestN_lt:∀ i,(bestN a t i).2=0∧(bestN a t i).1=0∨(bestN a t i).1<i
  | 0=>.inl ⟨rfl,rfl⟩
  | i + 1 => by
    rw [bestN]
    split
    · exact .inr (Nat.lt_succ_self i)
    · rcases bestN_lt i with h | h
      · exact .inl h
      · exact .inr (by omega)
theorem bestN_yes {i:Nat} (h:(bestN a t i).2<(a.getD i default).text.length) (h2:preB t (a.getD i default).text=true):bestN a t (i+1)=(i,(a.getD i default).text.length):=by
  rw [bestN,if_pos ⟨h,h2⟩]
theorem bestN_no {i:Nat} (h:¬ ((bestN a t i).2<(a.getD i default).text.length∧preB t (a.getD i default).text=true)):bestN a t (i+1)=bestN a t i:=by
  rw [bestN,if_neg h]
theorem tokAt_best (h:0<(bestN a t a.length).2):tokAt a sets t=(97,oneR [((bestN a t a.length).1:Int)],(bestN a t a.length).2):=if_pos h
section
variable (hb:¬ 0<(bestN a t a.length).2)
theorem tokAt_dot (hb:¬ 0<(bestN a t a.length).2) (h:((t.getD 0 default).toNat:Int)=46):tokAt a sets t=(97,oneR ((List.range a.length).map fun (k:Nat)=>(k:Int)),1):=by unfold tokAt;rw [if_neg hb,if_pos h]
theorem tokAt_minus (hb:¬ 0<(bestN a t a.length).2) (h1:¬ ((t.getD 0 default).toNat:Int)=46) (h:((t.getD 0 default).toNat:Int)=45):tokAt a sets t=(97,oneR [63],1):=by unfold tokAt;rw [if_neg hb,if_neg h1,if_pos h]
theorem tokAt_hash (hb:¬ 0<(bestN a t a.length).2) (h1:¬ ((t.getD 0 default).toNat:Int)=46) (h2:¬ ((t.getD 0 default).toNat:Int)=45) (h:((t.getD 0 default).toNat:Int)=35):tokAt a sets t=(97,oneR [62],1):=by unfold tokAt;rw [if_neg hb,if_neg h1,if_neg h2,if_pos h]
theorem tokAt_mark (hb:¬ 0<(bestN a t a.length).2) (h1:¬ ((t.getD 0 default).toNat:Int)=46) (h2:¬ ((t.getD 0 default).toNat:Int)=45) (h3:¬ ((t.getD 0 default).toNat:Int)=35) (h:0≤Lib.indexByte [124,40,41,42,63] (t.getD 0 default)) :
    tokAt a sets t=(((t.getD 0 default).toNat:Int),noneRx,1):=by unfold tokAt;rw [if_neg hb,if_neg h1,if_neg h2,if_neg h3,if_pos h]
theorem tokAt_rest (hb : ¬ 0 < (bestN a t a.length).2) (h1 : ¬ ((t.getD 0 default).toNat : Int) = 46) (h2 : ¬ ((t.getD 0 default).toNat : Int) = 45) (h3 : ¬ ((t.getD 0 default).toNat : Int) = 35) (h4 : ¬ 0 ≤ Lib.indexByte [124, 40, 41, 42, 63] (t.getD 0 default)) :
    tokAt a sets t=if ((t.getD 0 default).toNat:Int)≠123∨Lib.indexByte (t.drop 1) 125<0 then (0,noneRx,0) else if nameB t=[] then (97,noneRx,2)
      else if 0≤idxF (fun x:SetT=>decide (x.name=nameB t)) sets∧setOk (sets.getD (idxF (fun x:SetT=>decide (x.name=nameB t)) sets).toNat default).syms=true then
        (97,oneR (sets.getD (idxF (fun x:SetT=>decide (x.name=nameB t)) sets).toNat default).syms,(nameB t).length+2) else (0,noneRx,0):=by
  unfold tokAt;rw [if_neg hb,if_neg h1,if_neg h2,if_neg h3,if_neg h4]
end
end
theorem idxF_lt {α:Type} [Inhabited α] {p:α→Bool} {l:List α}:idxF p l<l.length:=by
  unfold idxF
  split
  · next h =>
    obtain ⟨x,hx,hp⟩:=List.any_eq_true.1 h
    have:=List.findIdx_lt_length_of_exists ⟨x,hx,hp⟩
    omega
  · omega
theorem preB_len {s t:List UInt8} (h:preB s t=true):t.length≤s.length:=by
  unfold preB at h;rw [Bool.and_eq_true,decide_eq_true_eq] at h;exact h.1
theorem bestN_le (a:List Letter) (t:List UInt8):∀ i,(bestN a t i).2≤t.length
  | 0=>Nat.zero_le _
  | i + 1 => by
    rw [bestN]
    split
    · next h=>exact preB_len h.2
    · exact bestN_le a t i
theorem cutB_nil {s:List UInt8} {c:UInt8} (h:0≤Lib.indexByte s c):(cutB s c).length=(Lib.indexByte s c).toNat:=by
  have:=indexByte_lt (l:=s) (c:=c)
  unfold cutB;rw [if_pos h,List.length_take];omega
theorem cutB_le {s:List UInt8} {c:UInt8}:(cutB s c).length≤s.length:=by
  unfold cutB;split
  · rw [List.length_take];omega
  · exact Nat.le_refl _
theorem mark_ne {c:UInt8} (h:0≤Lib.indexByte [124,40,41,42,63] c):((c.toNat:Nat):Int)≠0:=fun e=>by
  have e1:c.toNat=0:=by omega
  have e2:c=0:=UInt8.toNat_inj.1 e1
  subst e2
  revert h;decide
theorem tokAt_len {a : List Letter} {sets : List SetT} {t : List UInt8} (h : 0 < t.length) : (tokAt a sets t).2.2 ≤ t.length := by
  have hb:=bestN_le a t a.length
  have hx:=indexByte_lt (l:=t.drop 1) (c:=125)
  rw [List.length_drop] at hx
  unfold tokAt
  split
  · exact hb
  · split
    · exact h
    · split
      · exact h
      · split
        · exact h
        · split
          · exact h
          · split
            · exact Nat.zero_le _
            · next hc =>
              have hn:(nameB t).length=(Lib.indexByte (t.drop 1) 125).toNat:=cutB_nil (by omega)
              split
              · show 2≤t.length;omega
              · split
                · show (nameB t).length+2≤t.length;omega
                · exact Nat.zero_le _
theorem tk_next {a:List Letter} {sets:List SetT} {s:List UInt8} {k n m:Nat} {c:Int} {x:Rx} {acc L:List Tok} (hk:k<s.length) (hn:s.length-k≤n) (hacc:acc++tokN a sets s n k=L) (hl:acc.length≤k)
    (h:tokAt a sets (s.drop k)=(c,x,m)) (h0:c≠0) (hm:0<m):k+m≤s.length∧s.length-(k+m)≤n-1∧(acc++[⟨c,x,k⟩])++tokN a sets s (n-1) (k+m)=L∧(acc++[(⟨c,x,k⟩:Tok)]).length≤k+m:=by
  have h1:=tokAt_len (a:=a) (sets:=sets) (t:=s.drop k) (by rw [List.length_drop];omega)
  rw [h,List.length_drop] at h1
  have h1':m≤s.length-k:=h1
  refine ⟨by omega,by omega,?_,by simp;omega⟩
  obtain ⟨n,rfl⟩:∃ n',n=n'+1:=⟨n-1,by omega⟩
  rw [← hacc,tokN_ok hk h h0,List.append_assoc];rfl
theorem tk_bad {a:List Letter} {sets:List SetT} {s:List UInt8} {k n:Nat} {acc L:List Tok} (hk:k<s.length) (hn:s.length-k≤n) (hacc:acc++tokN a sets s n k=L) (h0:(tokAt a sets (s.drop k)).1=0):acc++[⟨0,noneRx,k⟩]=L:=by
  obtain ⟨n,rfl⟩:∃ n',n=n'+1:=⟨n-1,by omega⟩
  rw [← hacc,tokN_bad hk h0]
theorem tk_end {a:List Letter} {sets:List SetT} {s:List UInt8} {k n:Nat} {acc L:List Tok} (hk:s.length≤k) (hacc:acc++tokN a sets s n k=L):acc++[⟨101,noneRx,k⟩]=L:=by rw [← hacc,tokN_end hk]
end Go.Wb

namespace Go.Wc
open Go.Am Go.MapKept
abbrev keyT (x:Letter):Value:=.string ⟨x.text.toArray⟩
theorem keyT_inj {x y:Letter}:keyT x=keyT y↔x.text=y.text:=by simp [keyT]
noncomputable def ixK (a:List Letter):Nat→List Value
  | 0=>[]
  | i+1=>putK (ixK a i) (keyT (a.getD i default))
noncomputable def ixV (a:List Letter):Nat→List AV
  | 0=>[]
  | i+1=>putV (ixK a i) (ixV a i) (keyT (a.getD i default)) (int i)
theorem ixK_isKey (a:List Letter):∀ i,∀ u∈ixK a i,IsKey .string u
  | 0,u,h=>by cases h
  | i + 1, u, h => by
    unfold ixK putK at h
    split at h
    · exact ixK_isKey a i u h
    · rw [List.mem_append] at h
      rcases h with h|h
      · exact ixK_isKey a i u h
      · simp only [List.mem_singleton] at h;subst h;trivial
theorem ixK_len (a:List Letter):∀ i,(ixK a i).length≤i
  | 0=>Nat.le_refl _
  | i + 1 => by
    have:=ixK_len a i
    unfold ixK putK
    split
    · omega
    · simp;omega
theorem ixK_full {a : List Letter} : ∀ {i : Nat}, i ≤ a.length → (ixK a i).length = i → ixK a i = (a.take i).map keyT ∧ ixV a i = (List.range i).map (fun n : Nat => int n) ∧ ∀ j, j < i → ok3P a j
  | 0,_,_=>⟨rfl,rfl,fun j hj=>by omega⟩
  | i + 1, hi, h => by
    have hl:=ixK_len a i
    unfold ixK putK at h
    unfold ixK ixV putK putV
    cases hp:kpos (ixK a i) (keyT (a.getD i default)) with
    | some j=>rw [hp] at h;simp only [] at h;omega
    | none =>
      rw [hp] at h
      simp only [List.length_append,List.length_singleton] at h
      obtain ⟨h1,h2,h3⟩:=ixK_full (by omega:i≤a.length) (by omega)
      refine ⟨by rw [h1,take_succ (by omega),List.map_append];rfl,by rw [h2,List.range_succ,List.map_append];rfl,fun j hj=>?_⟩
      by_cases he:j=i
      · subst he
        intro k hk he
        have hn:=kpos_none.1 hp
        rw [h1] at hn
        refine hn (List.mem_map.2 ⟨a.getD k default,?_,keyT_inj.2 he⟩)
        rw [List.getD_eq_getElem?_getD,List.getElem?_eq_getElem (by omega)]
        exact List.mem_take_iff_getElem.2 ⟨k,by omega,rfl⟩
      · exact h3 j (by omega)
theorem ixK_not {a : List Letter} : ∀ {i : Nat}, i ≤ a.length → (ixK a i).length < i → ∃ j, j < i ∧ ¬ ok3P a j
  | 0,_,h=>by omega
  | i + 1, hi, h => by
    rcases Nat.lt_or_ge (ixK a i).length i with h1|h1
    · obtain ⟨j, hj, hn⟩ := ixK_not (by omega : i ≤ a.length) h1
      exact ⟨j,by omega,hn⟩
    · have hl := ixK_len a i
      obtain ⟨g1,_,_⟩:=ixK_full (by omega:i≤a.length) (by omega)
      unfold ixK putK at h
      cases hp:kpos (ixK a i) (keyT (a.getD i default)) with
      | none=>rw [hp] at h;simp only [List.length_append,List.length_singleton] at h;omega
      | some q =>
        have hm:=List.mem_of_getElem? (kpos_some hp)
        rw [g1,List.mem_map] at hm
        obtain ⟨x,hx,he⟩:=hm
        obtain ⟨k,hk,rfl⟩:=List.mem_take_iff_getElem.1 hx
        refine ⟨i,by omega,fun hok=>hok k (by omega) ?_⟩
        rw [List.getD_eq_getElem?_getD (i:=k),List.getElem?_eq_getElem (by omega)]
        exact keyT_inj.1 he
def indexAV (a:List Letter):AV:=if validA a=true then .mp (a.map keyT) ((List.range a.length).map fun n:Nat=>int n) else .sc (.map none)
theorem indexAV_bad {a:List Letter} (h:validA a=false):indexAV a=.sc (.map none):=by unfold indexAV;rw [h];rfl
theorem indexAV_good {a:List Letter} {i:Nat} (h1:1≤a.length∧a.length≤60) (hi:i=a.length) (h:∀ j,j<i→ok1P a (a.getD j default)∧ok2P (a.getD j default) j) (hn:¬ (ixK a i).length<a.length):indexAV a=.mp (ixK a i) (ixV a i):=by
  subst hi
  have hl:=ixK_len a a.length
  obtain ⟨g1,g2,g3⟩:=ixK_full (Nat.le_refl a.length) (by omega)
  unfold indexAV
  rw [if_pos (validA_good (n:=a.length) h1 (Nat.le_refl _) fun j hj=>⟨(h j hj).1,(h j hj).2,g3 j hj⟩),g1,g2,List.take_length]
theorem validA_dup {a:List Letter} {i:Nat} (hi:i=a.length) (h:(ixK a i).length<a.length):validA a=false:=by
  subst hi
  obtain ⟨j,hj,hn⟩:=ixK_not (Nat.le_refl _) h
  unfold validA
  rw [decide_eq_false]
  rintro ⟨_,h2⟩
  exact hn (h2 j hj).2.2
theorem resB_lt {c:UInt8} (h:(c.toNat:Int)<33):resB c=true:=by
  unfold resB;rw [decide_eq_true (p:=c.toNat<33) (by omega),Bool.or_true]
theorem resB_ib {c:UInt8} (h:¬ (c.toNat:Int)<33):resB c=decide (0≤Lib.indexByte resL c):=by
  unfold resB;rw [decide_eq_false (p:=c.toNat<33) (by omega),Bool.or_false];exact Lib.contains_iff_indexByte resL c
end Go.Wc

namespace Go.Wb
open Go.Am Go.Wc
theorem rising_len:∀ {l:List Int} {m:Nat},Srt leI l→(∀ x∈l,(m:Int)≤x∧x<64)→l.length≤64-m
  | [],m,_,_=>Nat.zero_le _
  | x :: l, m, hs, h => by
    have h1:=h x List.mem_cons_self
    have h2:=List.pairwise_cons.1 hs
    have h3:=rising_len (l:=l) (m:=m+1) h2.2 fun y hy=>⟨by
      have:=h2.1 y hy
      have h4:=of_decide_eq_true this.1
      have h5:=this.2
      omega,(h y (List.mem_cons_of_mem _ hy)).2⟩
    rw [List.length_cons];omega
theorem setOk_len {s:List Int} (h:setOk s=true):s.length≤64:=by
  have h1:=setOk_iff.1 h
  exact rising_len (m:=0) h1.2.1 fun x hx=>h1.2.2 x hx
theorem one_nf {s:List Int} (h:setOk s=true):Nf (oneR s)∧(oneR s).size≤65:=by
  refine ⟨.set h,?_⟩
  have:=setOk_len h
  unfold oneR;rw [size_mk];simp only [Rx.sizes];omega
theorem range_ok {n:Nat} (h0:0<n) (h:n≤64):setOk ((List.range n).map fun (k:Nat)=>(k:Int))=true:=by
  refine setOk_iff.2 ⟨by simpa using h0,?_,fun x hx=>?_⟩
  · refine List.pairwise_map.2 ((List.pairwise_lt_range).imp fun h=>⟨decide_eq_true (by omega),by omega⟩)
  · obtain ⟨k, hk, rfl⟩ := List.mem_map.1 hx
    have:=List.mem_range.1 hk;omega
theorem sing_ok {x:Int} (h:0≤x∧x<64):setOk [x]=true:=setOk_iff.2 ⟨Nat.succ_pos _,List.pairwise_singleton _ _,fun y hy=>by rw [List.mem_singleton.1 hy];exact h⟩
theorem none_nf:Nf noneRx∧noneRx.size≤65:=⟨.none,by decide⟩
theorem tokAt_ok {a : List Letter} {sets : List SetT} {t : List UInt8} (ha : 1 ≤ a.length ∧ a.length ≤ 60) : Nf (tokAt a sets t).2.1 ∧ (tokAt a sets t).2.1.size ≤ 65 := by
  unfold tokAt
  split
  · next h =>
    have:=bestN_lt (a:=a) (t:=t) a.length
    exact one_nf (sing_ok (by omega))
  · split
    · exact one_nf (range_ok (by omega) (by omega))
    · split
      · exact one_nf (sing_ok (by decide))
      · split
        · exact one_nf (sing_ok (by decide))
        · split
          · exact none_nf
          · split
            · exact none_nf
            · split
              · exact none_nf
              · split
                · next h=>exact one_nf h.2
                · exact none_nf
theorem endT_cons {t:Tok} {l:List Tok} (h:endT l):endT (t :: l):=by
  obtain ⟨h0,h1⟩:=h
  refine ⟨by rw [List.length_cons];omega,?_⟩
  rw [List.length_cons,show l.length+1-1=(l.length-1)+1 by omega]
  exact h1
theorem tokN_good {a : List Letter} {sets : List SetT} {s : List UInt8} (ha : 1 ≤ a.length ∧ a.length ≤ 60) : ∀ n k, endT (tokN a sets s n k) ∧ TokOk (tokN a sets s n k) ∧ wtT (tokN a sets s n k) ≤ 69 * (n + 1)
  | 0,k=>⟨⟨by show 0<1;decide,.inr rfl⟩,⟨fun t ht=>by rw [List.mem_singleton.1 ht];exact .none,fun t ht=>by rw [List.mem_singleton.1 ht];exact Int.natCast_nonneg k⟩,by show 1+0+Rx.sizes []+4+0≤_;rw [show Rx.sizes []=0 from rfl];omega⟩
  | n + 1, k => by
    have one:∀ c:Int,c=0∨c=101→endT [(⟨c,noneRx,k⟩:Tok)]∧TokOk [(⟨c,noneRx,k⟩:Tok)]∧wtT [(⟨c,noneRx,k⟩:Tok)]≤69*(n+1+1):=fun c hc =>
      ⟨⟨by show 0<1;decide,hc⟩,⟨fun t ht=>by rw [List.mem_singleton.1 ht];exact .none,fun t ht=>by rw [List.mem_singleton.1 ht];exact Int.natCast_nonneg k⟩,by show 1+0+Rx.sizes []+4+0≤_;rw [show Rx.sizes []=0 from rfl];omega⟩
    rw [tokN]
    split
    · split
      · exact one 0 (.inl rfl)
      · obtain ⟨h1, h2, h3⟩ := tokN_good (sets := sets) (s := s) ha n (k + (tokAt a sets (s.drop k)).2.2)
        obtain ⟨h4,h5⟩:=tokAt_ok (sets:=sets) (t:=s.drop k) ha
        refine ⟨endT_cons h1,⟨fun t ht=>?_,fun t ht=>?_⟩,?_⟩
        · rcases List.mem_cons.1 ht with rfl | ht
          · exact h4
          · exact h2.nf t ht
        · rcases List.mem_cons.1 ht with rfl | ht
          · exact Int.natCast_nonneg k
          · exact h2.pos t ht
        · rw [wtT]
          show (tokAt a sets (s.drop k)).2.1.size+4+_≤_
          omega
    · exact one 101 (.inr rfl)
theorem validA_bd {a:List Letter} (h:validA a=true):1≤a.length∧a.length≤60:=(of_decide_eq_true (p:=validP a) h).1
theorem toksP_ok {a:List Letter} {sets:List SetT} {s:List UInt8} (h:validA a=true) (hs:s.length≤1024):endT (toksP a sets s)∧TokOk (toksP a sets s)∧wtT (toksP a sets s)≤274877906944:=by
  obtain ⟨h1,h2,h3⟩:=tokN_good (sets:=sets) (s:=s) (validA_bd h) s.length 0
  exact ⟨h1,h2,by unfold toksP;omega⟩
def parseP (a:List Letter) (sets:List SetT) (s:List UInt8):Rx×Int:=if validA a=false then (noneRx,0) else if 1024<s.length then (noneRx,1024) else pTop (toksP a sets s)
theorem pTop_bad {l:List Tok} (h:0≤(finP (pAlt (pSeq (pPost l.length)) ⟨l,-1⟩).2).bad):pTop l=(noneRx,(finP (pAlt (pSeq (pPost l.length)) ⟨l,-1⟩).2).bad):=if_pos h
theorem pTop_ok {l:List Tok} (h:¬ 0≤(finP (pAlt (pSeq (pPost l.length)) ⟨l,-1⟩).2).bad):pTop l=((pAlt (pSeq (pPost l.length)) ⟨l,-1⟩).1,-1):=if_neg h
end Go.Wb

namespace Go.Proofs
open Go.Shelf
def Tryz.lays156_ren:Go.Shelf.Ren:=⟨fun|156=>100|165=>128|166=>129|169=>130|240=>142|241=>143|276=>165|277=>166|n=>n,fun|31=>111|9=>9|3=>3|4=>4|0=>0|20=>20|72=>135|76=>139|70=>133|37=>45|75=>138|127=>150|164=>166|5=>5|80=>141|n=>n,fun|n=>n⟩
theorem Tryz.lays156:Go.Proofs.Lays.n156 Tryz.prog Tryz.lays156_ren:={
  mixed:=by kernel_rfl
  f156:=Tryz.func100.trans (congrArg some (by kernel_rfl))
  f165:=Tryz.func128.trans (congrArg some (by kernel_rfl))
  f166:=Tryz.func129.trans (congrArg some (by kernel_rfl))
  f169:=Tryz.func130.trans (congrArg some (by kernel_rfl))
  f240:=Tryz.func142.trans (congrArg some (by kernel_rfl))
  f241:=Tryz.func143.trans (congrArg some (by kernel_rfl))
  f276:=Tryz.func165.trans (congrArg some (by kernel_rfl))
  f277:=Tryz.func166.trans (congrArg some (by kernel_rfl))
  t0:=Tryz.underlying0
  a0:=Tryz.isAgg0
  z0:=Tryz.sizeOf0
  v0:=Tryz.zeroValue0
  t3:=Tryz.underlying3
  a3:=Tryz.isAgg3
  z3:=Tryz.sizeOf3
  v3:=Tryz.zeroValue3
  t4:=Tryz.underlying4
  a4:=Tryz.isAgg4
  z4:=Tryz.sizeOf4
  v4:=Tryz.zeroValue4
  t9:=Tryz.underlying9
  a9:=Tryz.isAgg9
  z9:=Tryz.sizeOf9
  v9:=Tryz.zeroValue9
  t20:=Tryz.underlying20
  a20:=Tryz.isAgg20
  z20:=Tryz.sizeOf20
  v20:=Tryz.zeroValue20
  t31:=Tryz.underlying111
  a31:=Tryz.isAgg111
  z31:=Tryz.sizeOf111
  v31:=Tryz.zeroValue111
  t37:=Tryz.underlying45
  a37:=Tryz.isAgg45
  z37:=Tryz.sizeOf45
  v37:=Tryz.zeroValue45
  t70:=Tryz.underlying133
  a70:=Tryz.isAgg133
  z70:=Tryz.sizeOf133
  v70:=Tryz.zeroValue133
  t72:=Tryz.underlying135
  a72:=Tryz.isAgg135
  z72:=Tryz.sizeOf135
  v72:=Tryz.zeroValue135
  t75:=Tryz.underlying138
  a75:=Tryz.isAgg138
  z75:=Tryz.sizeOf138
  v75:=Tryz.zeroValue138
  t76:=Tryz.underlying139
  a76:=Tryz.isAgg139
  z76:=Tryz.sizeOf139
  v76:=Tryz.zeroValue139
  t127:=Tryz.underlying150
  a127:=Tryz.isAgg150
  z127:=Tryz.sizeOf150
  v127:=Tryz.zeroValue150
  t164:=Tryz.underlying166
  a164:=Tryz.isAgg166
  z164:=Tryz.sizeOf166
  v164:=Tryz.zeroValue166 }
theorem Tryz.Builder_Extra_156:Builder.Extra Tryz.prog Tryz.lays156_ren:={
  sizeBuilder:=by kernel_rfl
  liesBuilder:=by kernel_rfl
  t5:=Tryz.underlying5
  a5:=Tryz.isAgg5
  z5:=Tryz.sizeOf5
  v5:=Tryz.zeroValue5
  infoByte:=by kernel_rfl
  cellsByte:=by kernel_rfl
  sizeByte:=by kernel_rfl
  neB5:=by decide }
end Go.Proofs

namespace Go.Wb
open Go.Am Go.Wc
def joinB (l:List (List UInt8)):List UInt8:=Lib.join l [124]
theorem join_len:∀ {l:List (List UInt8)} {n:Nat},(∀ x∈l,x.length≤n)→(joinB l).length≤l.length*(n+1)
  | [],n,_=>Nat.zero_le _
  | [x], n, h => by
    have:=h x List.mem_cons_self
    show (List.intercalate [124] [x]).length≤_
    simp [List.intercalate];omega
  | x :: y :: l, n, h => by
    have h1:=h x List.mem_cons_self
    have h2:=join_len (l:=y :: l) fun z hz=>h z (List.mem_cons_of_mem _ hz)
    have e:joinB (x :: y :: l)=x++[124]++joinB (y :: l):=by
      unfold joinB Lib.join List.intercalate;simp [List.intersperse]
    rw [e,List.length_append,List.length_append,List.length_cons (a:=x),Nat.add_mul,List.length_singleton]
    omega
def letterT (a:List Letter) (n:Int):List UInt8:=if n=63 then [45] else if n=62 then [35] else (a.getD n.toNat default).text
def bareR (a:List Letter) (r:Rx):Int:=if r.kind=2∧r.syms.length=1∧r.syms.getD 0 default<a.length then r.syms.getD 0 default else -1
def setT (a:List Letter) (s:List Int):List UInt8 :=
  if s.length=a.length∧1<a.length∧s.getD (a.length-1) default=(a.length:Int)-1 then [46]
  else if s.length=1 then letterT a (s.getD 0 default) else [40]++joinB (s.map (letterT a))++[41]
def partT (r:Rx) (rep:Bool) (t:List UInt8):List UInt8:=if r.kind=4∨(r.kind=3∧rep=true) then [40]++t++[41] else t
def longR (a:List Letter) (last:Int):Bool:=decide (0≤last)&&a.any fun y=>decide ((a.getD last.toNat default).text.length<y.text.length)&&preB y.text (a.getD last.toNat default).text
def pieceT (a:List Letter) (last:Int) (x:Rx) (t t0:List UInt8):List UInt8 :=
  if longR a last=true∧0≤bareR a x then [40]++t++[41]
  else if longR a last=true∧x.kind=5∧0≤bareR a (x.kids.getD 0 default) then [40]++t0++[41,42]
  else partT x false t
mutual
def textR (a:List Letter):Rx→List UInt8
  | .mk k s l=>if k=0 then [123,125] else if k=1 then [] else if k=2 then setT a s else if k=4 then joinB (textRs a l)
      else if k=5 then partT (l.getD 0 default) true ((textRs a l).getD 0 default)++[42] else textQ a (-1) l
def textRs (a:List Letter):List Rx→List (List UInt8)
  | []=>[]
  | x :: l=>textR a x :: textRs a l
def textQ (a:List Letter) (last:Int):List Rx→List UInt8
  | []=>[]
  | .mk k s l :: q=>pieceT a last (.mk k s l) (textR a (.mk k s l)) ((textRs a l).getD 0 default)++textQ a (bareR a (.mk k s l)) q
end
theorem textRs_map (a:List Letter):∀ l:List Rx,textRs a l=l.map (textR a)
  | []=>by rw [textRs];rfl
  | x :: l=>by rw [textRs,textRs_map a l];rfl
theorem textQ_cons (a:List Letter) (last:Int) (x:Rx) (q:List Rx):textQ a last (x :: q)=pieceT a last x (textR a x) ((x.kids.map (textR a)).getD 0 default)++textQ a (bareR a x) q:=by
  cases x with|mk k s l=>rw [textQ,textRs_map];rfl
theorem textR_eq (a:List Letter) (r:Rx):textR a r=if r.kind=0 then [123,125] else if r.kind=1 then [] else if r.kind=2 then setT a r.syms else if r.kind=4 then joinB (r.kids.map (textR a))
      else if r.kind=5 then partT (r.kids.getD 0 default) true ((r.kids.map (textR a)).getD 0 default)++[42] else textQ a (-1) r.kids:=by
  cases r with|mk k s l=>rw [textR,textRs_map];rfl
theorem textR_0 {a:List Letter} {r:Rx} (h:r.kind=0):textR a r=[123,125]:=by rw [textR_eq,if_pos h]
theorem textR_1 {a:List Letter} {r:Rx} (h:r.kind=1):textR a r=[]:=by rw [textR_eq,if_neg (by omega),if_pos h]
theorem textR_2 {a:List Letter} {r:Rx} (h:r.kind=2):textR a r=setT a r.syms:=by rw [textR_eq,if_neg (by omega),if_neg (by omega),if_pos h]
theorem textR_4 {a:List Letter} {r:Rx} (h:r.kind=4):textR a r=joinB (r.kids.map (textR a)):=by rw [textR_eq,if_neg (by omega),if_neg (by omega),if_neg (by omega),if_pos h]
theorem textR_5 {a:List Letter} {r:Rx} (h:r.kind=5) (h0:0<r.kids.length):textR a r=partT (r.kids.getD 0 default) true (textR a (r.kids.getD 0 default))++[42]:=by
  rw [textR_eq,if_neg (by omega),if_neg (by omega),if_neg (by omega),if_neg (by omega),if_pos h,getD_map h0]
theorem textR_3 {a:List Letter} {r:Rx} (h:r.kind=3):textR a r=textQ a (-1) r.kids:=by rw [textR_eq,if_neg (by omega),if_neg (by omega),if_neg (by omega),if_neg (by omega),if_neg (by omega)]
def prevB (a:List Letter) (l:List Rx) (i:Nat):Int:=if 0<i then bareR a (l.getD (i-1) default) else -1
theorem textQ_step {a:List Letter} {l:List Rx} {i:Nat} (h:i<l.length):textQ a (prevB a l i) (l.drop i)=pieceT a (prevB a l i) (l.getD i default) (textR a (l.getD i default)) (((l.getD i default).kids.map (textR a)).getD 0 default)++textQ a (prevB a l (i+1)) (l.drop (i+1)):=by
  rw [drop_cons h,textQ_cons]
  have:prevB a l (i+1)=bareR a (l.getD i default):=by unfold prevB;rw [if_pos (by omega)];rfl
  rw [this]
theorem textQ_end {a:List Letter} {l:List Rx} {i:Nat} {z:Int} (h:l.length≤i):textQ a z (l.drop i)=[]:=by rw [List.drop_of_length_le h,textQ]
def symK (a:List Letter) (x:Int):Bool:=!(decide ((a.length:Int)≤x)&&(decide (x≠63)&&decide (x≠62)))
mutual
def knownR (a:List Letter):Rx→Bool
  | .mk k s l=>s.all (symK a)&&knownRs a l
def knownRs (a:List Letter):List Rx→Bool
  | []=>true
  | x :: l=>knownR a x&&knownRs a l
end
theorem knownRs_all (a:List Letter):∀ l:List Rx,knownRs a l=l.all (knownR a)
  | []=>by rw [knownRs];rfl
  | x :: l=>by rw [knownRs,knownRs_all a l];rfl
theorem knownR_eq (a:List Letter) (r:Rx):knownR a r=(r.syms.all (symK a)&&r.kids.all (knownR a)):=by cases r with|mk k s l=>rw [knownR,knownRs_all];rfl
theorem knownR_no {a:List Letter} {r:Rx} {i:Nat} (h:i<r.syms.length) (hn:symK a (r.syms.getD i default)=false):knownR a r=false:=by
  rw [knownR_eq]
  have:r.syms.all (symK a)=false:=by rw [List.all_eq_false];exact ⟨r.syms.getD i default,by rw [getD_el h];exact List.getElem_mem h,by rw [hn];decide⟩
  rw [this];rfl
theorem knownR_yes {a:List Letter} {r:Rx} (h:∀ i,i<r.syms.length→symK a (r.syms.getD i default)=true):knownR a r=!(r.kids.any fun x=>!knownR a x):=by
  rw [knownR_eq]
  have:r.syms.all (symK a)=true:=by
    rw [List.all_eq_true];intro x hx
    obtain ⟨j,hj,e⟩:=List.getElem_of_mem hx
    have:=h j hj;rwa [getD_el hj,e] at this
  rw [this,Bool.true_and,all_not_any]
def printP (a:List Letter) (r:Rx):List UInt8:=if validR r=true∧validA a=true∧knownR a (simR r)=true then textR a (simR r) else []
theorem piece_1 {a:List Letter} {last:Int} {x:Rx} {t t0:List UInt8} (h:longR a last=true) (hb:0≤bareR a x):pieceT a last x t t0=[40]++t++[41]:=if_pos ⟨h,hb⟩
theorem piece_2 {a:List Letter} {last:Int} {x:Rx} {t t0:List UInt8} (h:longR a last=true) (hb:¬ 0≤bareR a x) (hk:x.kind=5) (h0:0≤bareR a (x.kids.getD 0 default)):pieceT a last x t t0=[40]++t0++[41,42]:=by
  unfold pieceT;rw [if_neg (fun q=>hb q.2),if_pos ⟨h,hk,h0⟩]
theorem piece_3 {a:List Letter} {last:Int} {x:Rx} {t t0:List UInt8} (h:¬ (longR a last=true∧0≤bareR a x)) (h2:¬ (longR a last=true∧x.kind=5∧0≤bareR a (x.kids.getD 0 default))):pieceT a last x t t0=partT x false t:=by
  unfold pieceT;rw [if_neg h,if_neg h2]
theorem long_no {a:List Letter} {last:Int} (h:¬ 0≤last):longR a last=false:=by unfold longR;rw [decide_eq_false h];rfl
theorem long_is {a:List Letter} {last:Int} (h:0≤last):longR a last=a.any fun y=>decide ((a.getD last.toNat default).text.length<y.text.length)&&preB y.text (a.getD last.toNat default).text:=by unfold longR;rw [decide_eq_true h];rfl
theorem bare_range {a:List Letter} {r:Rx} (h:Nf r):-1≤bareR a r∧bareR a r<a.length:=by
  unfold bareR
  split
  · next hc =>
    have h1:=(h.k2 hc.1).2
    have h2:=(setOk_iff.1 h1).2.2 (r.syms.getD 0 default) (by rw [getD_el (by omega)];exact List.getElem_mem (by omega))
    exact ⟨by omega,hc.2.2⟩
  · omega
theorem prev_range {a:List Letter} {l:List Rx} {i:Nat} (h:∀ x∈l,Nf x) (hi:i<l.length):-1≤prevB a l i∧prevB a l i<a.length:=by
  unfold prevB
  split
  · exact bare_range (h _ (kid_mem (by omega)))
  · omega
theorem letter_len {a:List Letter} (h:∀ x∈a,x.text.length≤4) (n:Int):(letterT a n).length≤4:=by
  unfold letterT
  split
  · decide
  · split
    · decide
    · rw [List.getD_eq_getElem?_getD]
      cases hk:a[n.toNat]? with
      | none=>exact Nat.zero_le _
      | some x=>exact h x (List.mem_of_getElem? hk)
theorem joins_len {f:Rx→List UInt8}:∀ l:List Rx,(∀ x∈l,(f x).length+3≤8*x.size)→(joinB (l.map f)).length≤8*Rx.sizes l
  | [],_=>Nat.zero_le _
  | [x], h => by
    have:=h x List.mem_cons_self
    rw [Rx.sizes]
    show (List.intercalate [124] [f x]).length≤_
    simp [List.intercalate];omega
  | x :: y :: l, h => by
    have h1:=h x List.mem_cons_self
    have h2:=joins_len (f:=f) (y :: l) fun z hz=>h z (List.mem_cons_of_mem _ hz)
    have e:joinB ((x :: y :: l).map f)=f x++[124]++joinB ((y :: l).map f):=by
      unfold joinB Lib.join List.intercalate;simp [List.intersperse]
    rw [e,List.length_append,List.length_append,List.length_singleton,Rx.sizes]
    omega
theorem part_len (x:Rx) (b:Bool) (t:List UInt8):(partT x b t).length≤t.length+2:=by
  unfold partT;split
  · simp;try omega
  · omega
theorem piece_len {a:List Letter} {last:Int} {x:Rx} {t t0:List UInt8} {n:Nat} (h:t.length+3≤n) (h0:t0.length+3≤n):(pieceT a last x t t0).length≤n:=by
  have:=part_len x false t
  unfold pieceT;split
  · simp;try omega
  · split
    · simp;first|done|omega
    · omega
theorem textQ_len {a : List Letter} : ∀ (l : List Rx) (last : Int), (∀ x ∈ l, (textR a x).length + 3 ≤ 8 * x.size) → (∀ x ∈ l, ∀ y ∈ x.kids, (textR a y).length + 3 ≤ 8 * y.size) → (textQ a last l).length ≤ 8 * Rx.sizes l
  | [],_,_,_=>by rw [textQ];exact Nat.zero_le _
  | x :: l, last, h, h2 => by
    have h3:=textQ_len l (bareR a x) (fun y hy=>h y (List.mem_cons_of_mem _ hy)) fun y hy=>h2 y (List.mem_cons_of_mem _ hy)
    have h4:=h x List.mem_cons_self
    have h5:((x.kids.map (textR a)).getD 0 default).length+3≤8*x.size:=by
      by_cases h0:0<x.kids.length
      · rw [getD_map h0]
        have:=h2 x List.mem_cons_self _ (kid_mem h0)
        have:=kid_lt h0
        omega
      · rw [List.eq_nil_of_length_eq_zero (l := x.kids) (by omega)]
        have:=size_pos x
        show 0+3≤_;omega
    have h6:=piece_len (a:=a) (last:=last) (x:=x) h4 h5
    rw [textQ_cons,List.length_append,Rx.sizes];omega
theorem text_len {a : List Letter} (ha : ∀ x ∈ a, x.text.length ≤ 4) (r : Rx) : (textR a r).length + 3 ≤ 8 * r.size := by
  have : ∀ n (r : Rx), r.size ≤ n → (textR a r).length + 3 ≤ 8 * r.size := by
    intro n
    induction n with
    | zero=>intro r hr;have:=size_pos r;omega
    | succ n ih =>
      intro r hr
      have hk:∀ x∈r.kids,(textR a x).length+3≤8*x.size:=fun x hx=>ih x (by have:=size_kid hx;omega)
      have hkk:∀ x∈r.kids,∀ y∈x.kids,(textR a y).length+3≤8*y.size:=fun x hx y hy=>ih y (by have:=size_kid hx;have:=size_kid hy;omega)
      have hs:=size_eq r
      have hp:=size_pos r
      rw [textR_eq]
      split
      · show 2+3≤_;omega
      · split
        · show 0+3≤_;omega
        · split
          · unfold setT
            split
            · show 1+3≤_;omega
            · split
              · have:=letter_len ha (r.syms.getD 0 default);omega
              · have h1 := join_len (l := r.syms.map (letterT a)) (n := 4) fun x hx => by
                  obtain ⟨y,_,rfl⟩:=List.mem_map.1 hx;exact letter_len ha y
                rw [List.length_map] at h1
                simp only [List.length_append,List.length_cons,List.length_nil]
                omega
          · split
            · have:=joins_len r.kids hk;omega
            · split
              · have h1 := part_len (r.kids.getD 0 default) true ((r.kids.map (textR a)).getD 0 default)
                rw [List.length_append]
                by_cases h0:0<r.kids.length
                · rw [getD_map h0] at h1 ⊢
                  have:=hk _ (kid_mem h0)
                  have:=size_mem (kid_mem h0)
                  simp only [List.length_cons,List.length_nil];omega
                · rw [List.eq_nil_of_length_eq_zero (l := r.kids) (by omega)] at h1 ⊢
                  have e:((List.map (textR a) []).getD 0 default).length=0:=rfl
                  simp only [List.length_cons,List.length_nil];omega
              · have:=textQ_len r.kids (-1) hk hkk;omega
  exact this _ r (Nat.le_refl _)
theorem nf_kids {r:Rx} (h:Nf r):∀ x∈r.kids,Nf x:=by
  cases h with
  | seq h1 h2 h3=>exact fun x hx=>h2 x hx
  | alt h1 h2 h3 h4 h5 h6=>exact fun x hx=>h2 x hx
  | @star y h1 h2 h3 =>
    intro x hx
    have e:x=y:=List.mem_singleton.1 hx
    rw [e];exact h1
  | _=>exact fun x hx=>by cases hx
theorem nf_syms {a:List Letter} {r:Rx} (h:Nf r) (hk:knownR a r=true):∀ z∈r.syms,0≤z∧(z<a.length∨z=63∨z=62):=by
  intro z hz
  rw [knownR_eq,Bool.and_eq_true,List.all_eq_true] at hk
  have h1:=hk.1 z hz
  have h2:0≤z:=by
    cases h with
    | set h=>exact ((setOk_iff.1 h).2.2 z hz).1
    | _=>cases hz
  refine ⟨h2,?_⟩
  unfold symK at h1
  rw [Bool.not_eq_true',Bool.and_eq_false_iff,Bool.and_eq_false_iff] at h1
  simp only [decide_eq_false_iff_not] at h1
  omega
theorem known_kids {a:List Letter} {r:Rx} (hk:knownR a r=true):∀ x∈r.kids,knownR a x=true:=by
  rw [knownR_eq,Bool.and_eq_true,List.all_eq_true,List.all_eq_true] at hk;exact hk.2
theorem setT_dot {a:List Letter} {s:List Int} (h:s.length=a.length) (h1:1<a.length) (h2:s.getD (a.length-1) default=(a.length:Int)-1):setT a s=[46]:=if_pos ⟨h,h1,h2⟩
theorem setT_one {a:List Letter} {s:List Int} (h:¬ (s.length=a.length∧1<a.length∧s.getD (a.length-1) default=(a.length:Int)-1)) (h1:s.length=1):setT a s=letterT a (s.getD 0 default):=by unfold setT;rw [if_neg h,if_pos h1]
theorem setT_many {a:List Letter} {s:List Int} (h:¬ (s.length=a.length∧1<a.length∧s.getD (a.length-1) default=(a.length:Int)-1)) (h1:¬ s.length=1):setT a s=[40]++joinB (s.map (letterT a))++[41]:=by unfold setT;rw [if_neg h,if_neg h1]
theorem validA_txt {a:List Letter} (h:validA a=true):∀ x∈a,x.text.length≤4:=by
  intro x hx
  obtain ⟨j,hj,e⟩:=List.getElem_of_mem hx
  have h1:=((of_decide_eq_true (p:=validP a) h).2 j hj).1.1
  rw [getD_el hj,e] at h1
  unfold plainT at h1
  rw [Bool.and_eq_true,Bool.and_eq_true,decide_eq_true_eq,decide_eq_true_eq] at h1
  exact h1.2
end Go.Wb

namespace Go.Wb
open Go.Am Go.Wc
set_option maxRecDepth 100000
def abcL:List Letter:=[⟨[97],0,0,0,1⟩,⟨[98],1,0,0,1⟩,⟨[99],2,0,0,1⟩]
def restL:Rx:=.mk 5 [] [.mk 2 [1,2] []]
def xL:Rx:=.mk 3 [] [.mk 2 [0] [],restL]
def zL:Rx:=.mk 3 [] [restL,.mk 2 [0] []]
theorem liv1:parseP abcL [] [97,40,98,124,99,41,42]=(xL,-1):=by kernel_rfl
theorem liv2:(parseP abcL [] [97,41]).2=1:=by kernel_rfl
theorem liv3:(parseP abcL [] [40,97]).2=2:=by kernel_rfl
theorem liv4:(parseP abcL [] [97,42,98,124,42]).2=4:=by kernel_rfl
theorem liv5:printP abcL xL=[97,40,98,124,99,41,42]:=by kernel_rfl
theorem liv6:dR 0 (simR xL)=restL:=by kernel_rfl
theorem liv7:dR 1 (simR xL)=noneRx:=by kernel_rfl
theorem liv8:simR (.mk 4 [] [emptyRx,restL])=restL:=by kernel_rfl
theorem liv9:revR xL=zL:=by kernel_rfl
theorem liv10:matchR xL [0,1,2,1]=true:=by kernel_rfl
theorem liv11:matchR xL [1]=false:=by kernel_rfl
theorem liv12:validR xL=true:=by kernel_rfl
end Go.Wb

namespace Go.Wb
open Go.Am
def rvR (x:Rx):Rx:=buildR true x
structure RvOk (x:Rx):Prop where
  nf:Nf x
  kind:(rvR x).kind=x.kind
  acc:accR (rvR x)=accR x
  rnf:Nf (rvR x)
  inv:rvR (rvR x)=x
  kids:x.kind=4→∀ y∈(rvR x).kids,∃ z∈x.kids,y.kind=z.kind
  kids':x.kind=4→∀ z∈x.kids,∃ y∈(rvR x).kids,z.kind=y.kind
theorem RvOk.rv {x:Rx} (h:RvOk x):RvOk (rvR x):=by
  refine ⟨h.rnf,by rw [h.inv,h.kind],by rw [h.inv,h.acc],by rw [h.inv];exact h.nf,by rw [h.inv],fun h4 y hy=>?_,fun h4 y hy=>?_⟩
  · rw [h.inv] at hy
    exact h.kids' (by rw [← h.kind];exact h4) y hy
  · rw [h.inv]
    exact h.kids (by rw [← h.kind];exact h4) y hy
theorem two_mem {l:List Rx} {x y:Rx} (hx:x∈l) (hy:y∈l) (h:x≠y):2≤l.length:=by
  match l,hx,hy with
  | [z],hx,hy=>exact absurd ((List.mem_singleton.1 hx).trans (List.mem_singleton.1 hy).symm) h
  | _ :: _ :: l,_,_=>simp
structure AltOk (l:List Rx):Prop where
  len:2≤l.length
  rv:∀ x∈l,RvOk x
  kinds:∀ x∈l,x.kind≠0∧x.kind≠4
  srt:Srt leR l
  two:∀ x∈l,∀ y∈l,x.kind=2→y.kind=2→x=y
  acc:∀ x∈l,x.kind=1→∀ y∈l,y.kind≠1→accR y=false
theorem mem_map_rv {l:List Rx} (h:∀ x∈l,RvOk x) {y:Rx} (hy:y∈uniR (l.map rvR)):∃ x∈l,RvOk x∧y=rvR x:=by
  obtain ⟨x,hx,e⟩:=List.mem_map.1 (uniR_mem.1 hy)
  exact ⟨x,hx,h x hx,e.symm⟩
theorem rv_leaf_eq {x y:Rx} (hx:RvOk x) (hy:RvOk y) (h:rvR x=rvR y):x=y:=by rw [← hx.inv,h,hy.inv]
theorem AltOk.rev {l:List Rx} (h:AltOk l):AltOk (uniR (l.map rvR)):=by
  refine ⟨?_,fun y hy=>?_,fun y hy=>?_,uniR_srt _,fun y hy z hz h2 h2'=>?_,fun y hy h1 z hz h1'=>?_⟩
  · have h0 : l.getD 0 default ∈ l := kid_mem (by have := h.len; omega)
    have h1:l.getD 1 default∈l:=kid_mem (by have:=h.len;omega)
    have hne:=(pair_getD h.srt (i:=0) (j:=1) (by omega) (by have:=h.len;omega)).2
    exact two_mem (x:=rvR (l.getD 0 default)) (y:=rvR (l.getD 1 default)) (uniR_mem.2 (List.mem_map_of_mem h0)) (uniR_mem.2 (List.mem_map_of_mem h1)) fun e=>hne (rv_leaf_eq (h.rv _ h0) (h.rv _ h1) e)
  · obtain ⟨x, hx, hr, rfl⟩ := mem_map_rv h.rv hy
    exact hr.rv
  · obtain ⟨x, hx, hr, rfl⟩ := mem_map_rv h.rv hy
    rw [hr.kind];exact h.kinds x hx
  · obtain ⟨x, hx, hr, rfl⟩ := mem_map_rv h.rv hy
    obtain ⟨u,hu,hr',rfl⟩:=mem_map_rv h.rv hz
    rw [hr.kind] at h2;rw [hr'.kind] at h2'
    rw [h.two x hx u hu h2 h2']
  · obtain ⟨x, hx, hr, rfl⟩ := mem_map_rv h.rv hy
    obtain ⟨u,hu,hr',rfl⟩:=mem_map_rv h.rv hz
    rw [hr.kind] at h1;rw [hr'.kind] at h1'
    rw [hr'.acc];exact h.acc x hx h1 u hu h1'
theorem AltOk.nf {l:List Rx} (h:AltOk l):Nf (.mk 4 [] l):=.alt h.len (fun x hx=>(h.rv x hx).nf) h.kinds h.srt h.two h.acc
end Go.Wb

namespace Go.Wb
open Go.Am
end Go.Wb

namespace Go.Wb
open Go.Am Go.Wc
theorem valid_one {v:Int} (h:0≤v∧v<64):validR (.mk 2 [v] [])=true:=nf_valid (.set (sing_ok h))
theorem valid_two {v w:Int} (h:0≤v∧v<w∧w<64):validR (.mk 2 [v,w] [])=true:=by
  refine nf_valid (.set (setOk_iff.2 ⟨Nat.succ_pos _,?_,fun x hx=>?_⟩))
  · exact List.pairwise_cons.2 ⟨fun y hy=>by rw [List.mem_singleton.1 hy];exact ⟨decide_eq_true (by omega),by omega⟩,List.pairwise_singleton _ _⟩
  · rcases List.mem_cons.1 hx with rfl | hx
    · omega
    · rw [List.mem_singleton.1 hx];omega
theorem valid_star {x:Rx} (h:validR x=true):validR (.mk 5 [] [x])=true:=by
  rw [validR_5 rfl]
  show (true&&(true&&validR x))=true
  rw [h];rfl
theorem valid_pair {k:Int} {x y:Rx} (hk:k=3∨k=4) (hx:validR x=true) (hy:validR y=true):validR (.mk k [] [x,y])=true:=by
  rw [validR_34 (r:=.mk k [] [x,y]) hk]
  show (true&&!(List.any [x,y] fun x=>!validR x))=true
  simp [hx,hy]
theorem valid_leaf {k:Int} (hk:k=0∨k=1):validR (.mk k [] [])=true:=by rw [validR_01 (r:=.mk k [] []) hk];rfl
theorem shpF_valid {most n : Int} {st : List Rx} (hm : 0 < most ∧ most ≤ 64) (hn : 0 ≤ n) (h : ∀ x ∈ st, validR x = true) : ∀ x ∈ shpF most n st, validR x = true := by
  have a1:=Int.emod_nonneg (n / 8) (show most≠0 by omega)
  have a2:=Int.emod_lt_of_pos (n / 8) hm.1
  have b1:=Int.emod_nonneg (n / 8 / most) (show most≠0 by omega)
  have b2:=Int.emod_lt_of_pos (n / 8 / most) hm.1
  have hg:∀ i,i<st.length→validR (st.getD i default)=true:=fun i hi=>h _ (kid_mem hi)
  have happ:∀ y,validR y=true→∀ x∈st++[y],validR x=true:=fun y hy x hx=>by
    rcases List.mem_append.1 hx with hx|hx
    · exact h x hx
    · rw [List.mem_singleton.1 hx];exact hy
  have hset:∀ i y,validR y=true→∀ x∈st.set i y,validR x=true:=fun i y hy x hx=>by
    rcases List.mem_or_eq_of_mem_set hx with hx|hx
    · exact h x hx
    · rw [hx];exact hy
  unfold shpF
  split
  · exact happ _ (valid_one (by omega))
  · split
    · refine happ _ ?_
      split
      · exact valid_one (by omega)
      · refine valid_two ?_
        unfold minI maxI
        split<;>split<;>omega
    · split
      · next hc=>exact hset _ _ (valid_star (hg _ (by omega)))
      · split
        · next hc=>exact fun x hx=>hset _ _ (valid_pair (.inl rfl) (hg _ (by omega)) (hg _ (by omega))) x (List.mem_of_mem_take hx)
        · split
          · next hc=>exact fun x hx=>hset _ _ (valid_pair (.inr rfl) (hg _ (by omega)) (hg _ (by omega))) x (List.mem_of_mem_take hx)
          · split
            · next hc=>exact hset _ _ (valid_pair (.inr rfl) (valid_leaf (.inr rfl)) (hg _ (by omega)))
            · split
              · refine happ _ (valid_leaf ?_)
                unfold minI
                split<;>omega
              · exact h
theorem sizes_set:∀ {l:List Rx} {k:Nat} {y:Rx},k<l.length→Rx.sizes (l.set k y)+(l.getD k default).size=Rx.sizes l+y.size
  | x :: l, 0, y, _ => by
    show Rx.sizes (y :: l)+x.size=_
    rw [Rx.sizes,Rx.sizes];omega
  | x :: l, k + 1, y, h => by
    have:=sizes_set (l:=l) (k:=k) (y:=y) (by simpa using h)
    show Rx.sizes (x :: l.set k y)+(l.getD k default).size=_
    rw [Rx.sizes,Rx.sizes];omega
theorem sizes_pop {l:List Rx} {k:Nat} (h:k+1=l.length):Rx.sizes (l.take k)+(l.getD k default).size=Rx.sizes l:=by
  have h1:=sizes_take_drop l k
  rw [drop_cons (by omega),List.drop_of_length_le (by omega),Rx.sizes,show Rx.sizes []=0 from rfl] at h1
  omega
theorem size_two (k:Int) (x y:Rx):(Rx.mk k [] [x,y]).size=1+x.size+y.size:=by rw [size_mk,Rx.sizes,Rx.sizes,show Rx.sizes []=0 from rfl,List.length_nil];omega
theorem shpF_size (most n : Int) (st : List Rx) : Rx.sizes (shpF most n st) ≤ Rx.sizes st + 3 := by
  have happ:∀ y:Rx,y.size≤3→Rx.sizes (st++[y])≤Rx.sizes st+3:=fun y hy=>by
    rw [sizes_append,Rx.sizes,show Rx.sizes []=0 from rfl];omega
  have hset1:∀ {k:Nat} {y:Rx},k<st.length→y.size≤(st.getD k default).size+2→Rx.sizes (st.set k y)≤Rx.sizes st+3:=fun {k y} hk hy=>by
    have:=sizes_set (y:=y) hk;omega
  have hpop:∀ (c:Int),1<st.length→Rx.sizes ((st.set (st.length-2) (.mk c [] [st.getD (st.length-2) default,st.getD (st.length-1) default])).take (st.length-1))≤Rx.sizes st+3:=fun c h=>by
    have h1:=sizes_set (l:=st) (k:=st.length-2) (y:=.mk c [] [st.getD (st.length-2) default,st.getD (st.length-1) default]) (by omega)
    rw [size_two] at h1
    have h2:=sizes_pop (l:=st.set (st.length-2) (.mk c [] [st.getD (st.length-2) default,st.getD (st.length-1) default])) (k:=st.length-1) (by rw [List.length_set];omega)
    rw [getD_set_ne' (by omega)] at h2
    omega
  unfold shpF
  split
  · exact happ _ (by rw [size_mk];simp only [List.length_cons,List.length_nil,Rx.sizes];omega)
  · split
    · refine happ _ ?_
      split
      · rw [size_mk];simp only [List.length_cons,List.length_nil,Rx.sizes];omega
      · rw [size_mk];simp only [List.length_cons,List.length_nil,Rx.sizes];omega
    · split
      · next hc=>exact hset1 (by omega) (by rw [size_mk,Rx.sizes,show Rx.sizes []=0 from rfl,List.length_nil];omega)
      · split
        · next hc=>exact hpop 3 hc.2
        · split
          · next hc=>exact hpop 4 hc.2
          · split
            · next hc=>exact hset1 (by omega) (by rw [size_two,show (emptyRx).size=1 from rfl];omega)
            · split
              · exact happ _ (by rw [size_mk];simp only [List.length_cons,List.length_nil,Rx.sizes];omega)
              · omega
theorem shpN_good {most:Int} {l:List Int} (hm:0<most∧most≤64):∀ i,(∀ x∈shpN most l i,validR x=true)∧Rx.sizes (shpN most l i)≤3*i
  | 0=>⟨(fun x hx=>by cases hx),Nat.le_refl _⟩
  | i + 1 => by
    obtain ⟨h1,h2⟩:=shpN_good (l:=l) hm i
    have h3:=shpF_size most (around (l.getD i default) 1048576) (shpN most l i)
    rw [shpN]
    exact ⟨shpF_valid hm (around_lt (by decide)).1 h1,by omega⟩
theorem shaped_good {most:Int} (l:List Int) (hm:0<most∧most≤64):validR (shapedP l most)=true∧(shapedP l most).size≤49:=by
  obtain ⟨h1,h2⟩:=shpN_good (l:=l) hm (min l.length 16)
  have h3:min l.length 16≤16:=Nat.min_le_right _ _
  unfold shapedP shpE
  split
  · exact ⟨h1 _ (kid_mem (by omega)),by have:=size_mem (kid_mem (l:=shpN most l (min l.length 16)) (i:=0) (by omega));omega⟩
  · refine ⟨?_, by rw [size_mk, List.length_nil]; omega⟩
    rw [validR_34 (r:=.mk 3 [] (shpN most l (min l.length 16))) (.inl rfl)]
    show (true&&!(List.any _ _))=true
    rw [Bool.true_and,Bool.not_eq_true',List.any_eq_false]
    exact fun x hx=>by rw [h1 x hx];decide
end Go.Wb

namespace Go.Wb
open Go.Am
def lbR (x:Rx) (l:List Rx):Nat:=l.findIdx fun y=>!decide (cmpR y x<0)
def rput (l:List Rx) (x:Rx):List Rx:=if lbR x l<l.length∧cmpR (l.getD (lbR x l) default) x=0 then l else l.take (lbR x l)++[x]++l.drop (lbR x l)
def rOut1 (o:List Rx) (x:Rx):List Rx:=if x.kind=1 then o else if 2<x.kind then rput o x else o
def rOut (L:List Rx):List Rx:=L.foldl rOut1 []
def rOth1 (b:Bool) (x:Rx):Bool:=if x.kind=1 then b else if 2<x.kind then b||accR x else b
def rOth (L:List Rx):Bool:=L.foldl rOth1 false
def rEmp (L:List Rx):Bool:=L.any fun x=>decide (x.kind=1)
def rIs (L:List Rx) (v:Nat):Bool:=L.any fun x=>x.syms.any fun z=>decide (z=v)
def rSyms (L:List Rx) (n:Nat):List Int:=((List.range n).filter (rIs L)).map fun v:Nat=>(v:Int)
def rAlt2 (L:List Rx):List Rx:=if 0<(rSyms L 64).length then rput (rOut L) (.mk 2 (rSyms L 64) []) else rOut L
def rAlt3 (L:List Rx):List Rx:=if rEmp L=true∧rOth L=false then rput (rAlt2 L) emptyRx else rAlt2 L
def rAlt (l:List Rx):Rx:=altE (rAlt3 (altL l))
def rStar (x:Rx):Rx:=if x.kind=0∨x.kind=1 then emptyRx else if x.kind=5 then x else .mk 5 [] [if x.kind=4 then rAlt (x.kids.filter fun y=>!decide (y.kind=1)) else x]
end Go.Wb

namespace Go.Am
open Go.RowKit
section
variable {P:Program} {w0:Fr} {M0:Nat→Prop} {o:Oper} {ρ:Operand→Option SV} {ob:List (Nat×Ob)} {x y z:Operand} {T e:TypeId} {k id off:Nat} {c:Cls} {cs:List SV}
end
end Go.Am

namespace Go.Wb
open Go.Am
section
variable {L:List Rx} {j k v:Nat}
def rIsAt (L:List Rx) (j k v:Nat):Bool:=rIs (L.take j) v||((L.getD j default).syms.take k).any fun z=>decide (z=(v:Int))
def bCells (f:Nat→Bool):List SV:=(List.range 64).map fun v=>.v .pl (bool (f v))
end
end Go.Wb

namespace Go.Wb
open Go.Am
def rStarB (x:Rx):Rx:=if x.kind=4 then rAlt (x.kids.filter fun y=>!decide (y.kind=1)) else x
abbrev no1 (y:Rx):Bool:=!decide (y.kind=1)
theorem Nf.kids {x y:Rx} (h:Nf x) (hy:y∈x.kids):Nf y:=by
  cases h with
  | none=>cases hy
  | empty=>cases hy
  | set h=>cases hy
  | seq h1 h2 h3=>exact h2 y hy
  | alt h1 h2 h3 h4 h5 h6=>exact h2 y hy
  | star h1 h2 h3=>rw [List.mem_singleton.1 hy];exact h1
def nrL (t:Bool) (r:Rx):List Rx:=if t=true∧r.kind=3 then (r.kids.map (buildR t)).reverse else r.kids.map (buildR t)
end Go.Wb

