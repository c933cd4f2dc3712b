/-
  Part of the proof.
-/
import Derived.WalkKit
import Derived.Below
import Derived.WalkSpells
import Derived.WalkLawsBesides
import Derived.RangeFuncNested
import Derived.RangeFuncKeeps
import Derived.OrdersIn
import Derived.LoopN
import Derived.LoopNIn
import Derived.Scope
import Derived.Control
set_option linter.unusedVariables false
set_option linter.unusedSectionVars false
set_option linter.unusedSimpArgs false
set_option maxRecDepth 100000
set_option maxHeartbeats 40000000
abbrev aax:=@List.getD_eq_getElem?_getD
abbrev aaz:=@Nat.le_of_ble_eq_true
abbrev aaA:=@List.length_map
abbrev aaB:=@Option.some.injEq
abbrev aaD:=@Nat.le_refl
abbrev aaE:=@List.length_cons
abbrev aaF:=@List.getElem?_eq_getElem
abbrev aaG:=@Nat.zero_le
abbrev aaH:=@Option.map_eq_some_iff
abbrev aaI:=@List.getElem?_map
abbrev aaJ:=@List.mem_cons_self
abbrev aaK:=@List.map_append
abbrev aaL:=@List.length_nil
abbrev aaM:=@List.length_append
abbrev aaO:=@List.length_take
abbrev aaW:=@List.mem_cons_of_mem
abbrev aaX:=@List.length_drop
abbrev aaY:=@List.mem_singleton
abbrev aaZ:=@Bool.and_eq_true
abbrev aa0:=@List.getElem?_eq_some_iff
abbrev aa1:=@List.length_range
abbrev aa2:=@List.take_of_length_le
abbrev aa3:=@List.mem_cons
abbrev aa4:=@List.eq_nil_of_length_eq_zero
abbrev aa5:=@List.all_eq_true
abbrev aa6:=@List.getElem?_append_right
abbrev aa7:=@List.mem_map
abbrev aa8:=@List.getElem?_append_left
abbrev aa9:=@Nat.lt_or_ge
abbrev aba:=@List.mem_range
abbrev abb:=@Nat.le_trans
abbrev abc:=@Array.getD_eq_getD_getElem?
abbrev abd:=@Array.getElem?_eq_getElem
abbrev abe:=@List.append_nil
abbrev abf:=@List.getElem?_cons_zero
abbrev abg:=@List.getElem?_eq_none
abbrev abh:=@List.length_reverse
abbrev abi:=@Array.getElem?_toList
abbrev abj:=@Nat.lt_of_lt_of_le
abbrev abk:=@List.any_eq_true
abbrev abl:=@List.mem_append
abbrev abm:=@List.mem_of_getElem?
abbrev abn:=@Array.getElem?_eq_some_iff
abbrev abo:=@List.getElem?_take
abbrev abp:=@List.mem_of_mem_drop
abbrev abr:=@List.append_assoc
abbrev abt:=@List.pairwise_cons
abbrev abu:=@Option.map_some
abbrev abv:=@List.contains_iff_mem
abbrev abw:=@Bool.not_eq_true'
abbrev abx:=@List.map_cons
abbrev aby:=@Nat.eq_of_beq_eq_true
abbrev abz:=@List.filter_cons
abbrev abA:=@List.mem_filter
abbrev abB:=@List.range_succ
abbrev abC:=@Bool.or_eq_true
abbrev abD:=@List.length_singleton
abbrev abE:=@Option.bind_eq_some_iff
abbrev abF:=@List.getElem_of_mem
abbrev abG:=@List.filter_append
abbrev abH:=@List.nil_append
abbrev abI:=@Nat.le_of_lt_succ
abbrev abJ:=@List.ext_getElem?
abbrev abK:=@List.take_length
abbrev abL:=@Nat.zero_add
abbrev abM:=@List.drop_of_length_le
abbrev abN:=@Ne.symm
abbrev abO:=@List.mem_of_mem_take
abbrev abP:=@Prod.mk.injEq
abbrev abQ:=@List.flatMap_cons
abbrev abR:=@Nat.mul_le_mul_right
abbrev abS:=@Bool.true_and
abbrev abT:=@List.length_filter_le
abbrev abU:=@List.take_append_drop
abbrev abV:=@List.getElem_mem
abbrev abW:=@List.map_nil
abbrev abX:=@List.getElem?_range
abbrev abY:=@List.getElem?_cons_succ
abbrev abZ:=@Nat.eq_zero_or_pos
abbrev ab0:=@List.length_pos_iff_exists_mem
abbrev ab1:=@Bool.false_and
abbrev ab2:=@List.foldl_append
abbrev ab3:=@List.getElem?_drop
abbrev ab4:=@List.drop_eq_getElem_cons
abbrev ab5:=@Bool.and_false
abbrev ab6:=@List.any_eq_false
abbrev ab7:=@List.reverse_reverse
abbrev ab8:=@Nat.mul_one
abbrev ab9:=@List.getElem?_set_self
abbrev aca:=@List.mem_flatMap
abbrev acb:=@Int.toNat_natCast
abbrev acd:=@List.contains_eq_mem
abbrev ace:=@List.getElem?_set_ne
abbrev acf:=@List.filter_nil
abbrev acg:=@List.cons_append
abbrev ach:=@Option.bind_some
abbrev aci:=@List.pairwise_singleton
abbrev acj:=@List.getElem?_replicate
abbrev ack:=@Array.getElem?_append_left
abbrev acm:=@List.mem_of_find?_eq_some
abbrev acn:=@List.length_set
abbrev aco:=@List.getElem_map
abbrev acp:=@List.flatMap_append
abbrev acq:=@Bool.eq_iff_iff
abbrev acr:=@List.pairwise_iff_getElem
abbrev acs:=@List.mem_append_right
abbrev acu:=@List.map_map
abbrev acv:=@List.cons.inj
abbrev acw:=@Array.ext'
abbrev acx:=@List.mem_append_left
abbrev acy:=@List.filter_cons_of_neg
abbrev acz:=@List.foldl_cons
abbrev acA:=@List.filter_eq_self
abbrev acB:=@Array.length_toList
abbrev acC:=@Nat.beq_refl
abbrev acD:=@List.length_pos_of_mem
abbrev acE:=@Nat.sub_zero
abbrev acF:=@Array.getElem?_eq_none
abbrev acG:=@List.findIdx_lt_length_of_exists
abbrev acH:=@List.mem_reverse
abbrev acI:=@Option.getD_some
abbrev acJ:=@Bool.false_eq_true
abbrev acK:=@List.mem_or_eq_of_mem_set
abbrev acL:=@Nat.add_mul
abbrev acM:=@Nat.sub_self
abbrev acN:=@Nat.min_eq_left
abbrev acO:=@Nat.lt_of_succ_le
abbrev acP:=@List.filter_cons_of_pos
abbrev acQ:=@List.map_congr_left
abbrev acR:=@List.mem_map_of_mem
abbrev acS:=@Nat.le_of_not_lt
abbrev acT:=@List.mergeSort_nil
abbrev acU:=@List.length_replicate
abbrev acV:=@List.pairwise_map
abbrev acW:=@List.mem_iff_getElem
abbrev acX:=@List.not_mem_nil
abbrev acY:=@Nat.succ_mul
abbrev acZ:=@Array.toList_map
abbrev ac0:=@List.ext_getElem
abbrev ac1:=@Nat.mul_comm
abbrev ac2:=@List.replicate_succ
abbrev ac3:=@List.cons.injEq
abbrev ac4:=@List.any_append
abbrev ac5:=@List.getElem_range
abbrev ac6:=@List.find?_eq_none
abbrev ac7:=@List.map_singleton
abbrev ac8:=@Int.emod_lt_of_pos
abbrev ac9:=@Function.comp_def
abbrev ada:=@List.filter_congr
abbrev adb:=@List.size_toArray
abbrev ade:=@List.Pairwise.imp
abbrev adf:=@List.map_set
abbrev adg:=@List.take_zero
theorem adh {p:Prop}(h:p:=by omega):p:=h
theorem adi {p:Prop}(h:p:=by kernel_rfl):p:=h
theorem adj {p:Prop}(h:p:=by decide):p:=h
theorem adk {p:Prop}(h:p:=by assumption):p:=h
namespace Go.Am
open Go.RowKit
theorem drawn_setCell (w:World)(a:Addr)(v:Value):(w.setCell a v).drawn=w.drawn:=by unfold World.setCell;split<;>rfl
theorem BM (w:World)(a:Addr)(n:Nat):(w.freeze a n).drawn=w.drawn:=by unfold World.freeze;split<;>rfl
variable{α:Type}
theorem Jz :∀(q:Ask α)(w:World),w.drawn≤(w.ask q).2.drawn:=by
 intro q
 induction q with
 | done a=>intro w;exact aaD _
 | ask what range k ih =>
   intro w;unfold World.ask;simp only[];split
   · exact ih _ _
   · exact abb (Nat.le_succ _) (ih _ { w with drawn:=w.drawn+1 })
theorem JA (w:World)(c:Sys):w.drawn≤(w.sys c).2.drawn:=by
 have:=Jz (Kernel.perform c w.os) w;unfold World.sys;split
 ·exact aaD _
 ·rename_i h;rw[h] at this;exact this
variable{v:Value}{w':World}
theorem xi {p:Program}{w:World}{a:Addr}{b:Bool}{l:List Addr}(h:w.farStore p a v b=.ok (w',l)):w'.drawn=w.drawn:=by
 unfold World.farStore at h;split at h
 ·split at h
  ·simp only[Except.ok.injEq] at h;subst h;rename_i r hr;unfold World.viewStore at hr;simp only[bind,Except.bind,pure,Except.pure] at hr
   (repeat' (split at hr))<;>first|(cases hr;done)|(cases hr;rfl)
  ·cases h
 ·cases h
theorem lP {P:Program}:∀(m:Sem α)(w:World)(v:α)(w':World),m.run P w=.ok v w'→w.drawn≤w'.drawn:=by
 intro m
 induction m with
 | pure a=>intro w v w' h;simp only[Sem.run,Result.ok.injEq] at h;rw[h.2];exact aaD _
 | load md a k ih =>
   intro w v w' h;simp only[Sem.run] at h;split at h
   · exact ih _ _ _ _ h
   · split at h
     · exact ih _ _ _ _ h
     · cases h
 | store md a u k ih =>
   intro w v w' h;have key:∀q:Result α,q=.ok v w'→q=(match w.cell? a with
       | some _ => if w.frozen? a then Result.halt (.unsupported (.unsafePointer "a write to bytes that a string shares")) w else k.run P (w.setCell a u)
       | none => match w.farStore P a u (md == .atomic) with
         | .ok (w,_)=>k.run P w
         | .error h=>.halt h w)→w.drawn≤w'.drawn:=by
     intro q hq hd;rw[hq] at hd;split at hd
     · split at hd
       · cases hd
       · exact abb (Nat.le_of_eq (drawn_setCell _ _ _).symm) (ih _ _ _ hd.symm)
     · split at hd
       · rename_i hf
         exact abb (Nat.le_of_eq (xi hf).symm) (ih _ _ _ hd.symm)
       · cases hd
   cases u<;>first|exact key _ h rfl|(cases h;done)
 | new o k ih=>intro w v w' h;have:=ih _ { w with heap:=w.heap.push o } _ _ h;exact this
 | shape r k ih=>intro w v w' h;exact ih _ _ _ _ h
 | freeze a n k ih=>intro w v w' h;exact abb (Nat.le_of_eq (BM _ _ _).symm) (ih _ _ _ h)
 | frozen a k ih=>intro w v w' h;exact ih _ _ _ _ h
 | getObj r k ih =>
   intro w v w' h;simp only[Sem.run] at h;split at h
   · cases h
   · exact ih _ _ _ _ h
   · cases h
 | setObj r o k ih =>
   intro w v w' h;simp only[Sem.run] at h;split at h
   · cases h
   · have:=ih { w with heap:=w.heap.setIfInBounds r o } _ _ h;exact this
   · cases h
 | choose q k ih =>
   intro w v w' h;simp only[Sem.run] at h;split at h
   · exact ih _ _ _ _ h
   · have := ih _ _ _ _ h
     simp only at this;omega
 | sys c k ih =>
   intro w v w' h;exact abb (JA _ _) (ih _ _ _ _ h)
 | program k ih=>intro w v w' h;exact ih _ _ _ _ h
 | mark m k ih=>intro w v w' h;exact ih _ _ _ h
 | halt x=>intro w v w' h;cases h
theorem J {α : Sort _}{a : α} : a = a := rfl
structure bD (D:Prop)(B:Nat)(w w':World):Prop extends RowKit.Below B w w' where
 drawn:D→w.drawn≤w'.drawn
abbrev Below (B:Nat)(w w':World):Prop:=bD True B w w'
theorem bD.refl {D:Prop}(B:Nat)(w:World):bD D B w w:=⟨.refl _ _,fun _=>aaD _⟩
variable{B:Nat}
theorem bD.trans {D:Prop}{a b c:World}(h:bD D B a b)(k:bD D B b c):bD D B a c:=⟨h.toBelow.trans k.toBelow,fun d=>abb (h.drawn d) (k.drawn d)⟩
theorem bD.drew {D:Prop}{a w:World}(h:bD D B a w):bD D B a w.drew:=⟨h.toBelow.drew,fun d=>abb (h.drawn d) (Nat.le_succ _)⟩
theorem bD.alloc {D:Prop}{a w:World}(h:bD D B a w)(hB:B≤w.heap.size)(o:Obj):bD D B a (w.alloc o):=⟨h.toBelow.alloc hB o,h.drawn⟩
theorem bD.less {D D':Prop}{w:World}(h:bD D B w w')(hd:D'→D):bD D' B w w':=⟨h.toBelow,fun d=>h.drawn (hd d)⟩
theorem bD.to {D:Prop}{w:World}(h:bD True B w w'):bD D B w w':=h.less fun _=>trivial
theorem Below.refl {D:Prop}(B:Nat)(w:World):bD D B w w:=.refl _ _
inductive Md where
 | plain
 | marks
 | round (l:Nat)
structure Fr where
 w:World
 K:Nat→Prop
 hK:∀b,K b→b<w.heap.size
 pin:List (Nat×Nat)
 hpin:∀x∈pin,1000000≤x.1
 dr:Prop
 md:Md
def Fr.PV (D:Prop)(w:World):Fr:=⟨w,fun b=>b<w.heap.size,fun _ h=>h,[],(fun x h=>by cases h),D,.plain⟩
abbrev Fr.plain (w0:Fr):Fr:={ w0 with md:=.plain }
abbrev Fr.all (w:World):Fr:=Fr.PV True w
structure xj (D:Prop)(K:Nat→Prop)(w w':World):Prop where
 os:w'.os=w.os
 tape:w'.tape=w.tape
 output:w'.output=w.output
 size:w.heap.size≤w'.heap.size
 block:∀k,K k→w'.heap[k]?=w.heap[k]?
 drawn:D→w.drawn≤w'.drawn
theorem xj.refl {D:Prop}(K:Nat→Prop)(w:World):xj D K w w:=⟨rfl,rfl,rfl,aaD _,fun _ _=>rfl,fun _=>aaD _⟩
theorem xj.trans {D:Prop}{K:Nat→Prop}{a b c:World}(h:xj D K a b)(k:xj D K b c):xj D K a c :=
 ⟨k.os.trans h.os,k.tape.trans h.tape,k.output.trans h.output,abb h.size k.size,fun i hi=>(k.block i hi).trans (h.block i hi),fun d=>abb (h.drawn d) (k.drawn d)⟩
theorem bD.PW {D:Prop}{w:World}{K:Nat→Prop}(h:bD D B w w')(hk:∀b,K b→b<B):xj D K w w':=⟨h.os,h.tape,h.output,h.size,fun k hb=>h.block k (hk k hb),h.drawn⟩
theorem xj.below {D:Prop}{w:World}(h:xj D (fun b=>b<B) w w'):bD D B w w':=⟨⟨h.os,h.tape,h.output,h.size,h.block⟩,h.drawn⟩
def mK (w0:Fr)(M0:Nat→Prop)(b:Nat):Prop:=¬w0.K b∧¬M0 b
inductive AV where
 | sc (v:Value)
 | sl (xs:List AV)
 | agg (cs:List AV)
 | tup (vs:List AV)
 | pc (cs:List AV)(off:Nat)
 | clo (fn:FuncId)(caps:List AV)
 | mp (ks:List Value)(vs:List AV)
 deriving Inhabited
def AV.cells:AV→List AV
 | .agg cs=>cs
 | d=>[d]
def AV.leaf:AV→Bool
 | .agg _=>false
 | .tup _=>false
 | _=>true
def flat (xs:List AV):List AV:=xs.flatMap AV.cells
inductive bL (w:World)(M:Nat→Prop):Value→AV→Prop
 | sc (v:Value)(h:v.oneCell'=true):bL w M v (.sc v)
 | sl (a:Option Addr)(n cap:Nat)(xs:List AV)(k:Nat)(cv:Nat→Value)(hn:xs.length=n)(hc:n≤cap)(hk:∀x∈xs,(AV.cells x).length=k)
  (hb:0<n→∃b o,a=some ⟨b,o,none⟩∧¬M b∧b<w.heap.size∧∀j,j<n*k→w.cell? ⟨b,o+j,none⟩=some (cv j))
  (hl:∀(j:Nat) d,(flat xs)[j]?=some d→AV.leaf d=true)
  (hr:∀(j:Nat) d,(flat xs)[j]?=some d→bL w M (cv j) d):bL w M (.slice a n cap) (.sl xs)
 | agg (vs:List Value)(cs:List AV)(hn:vs.length=cs.length)(hl:∀(j:Nat) d,cs[j]?=some d→AV.leaf d=true)
  (hr:∀(j:Nat) d,cs[j]?=some d→bL w M (vs.getD j undef) d):bL w M (.agg vs.toArray) (.agg cs)
 | tup (vs:List Value)(cs:List AV)(hn:vs.length=cs.length)
  (hr:∀(j:Nat) d,cs[j]?=some d→bL w M (vs.getD j undef) d):bL w M (.tuple vs.toArray) (.tup cs)
 | pc (b o off:Nat)(cs:List AV)(cv:Nat→Value)(hM:¬M b)(hb:b<w.heap.size)
  (hc:∀j,j<cs.length→w.cell? ⟨b,o+j,none⟩=some (cv j))(hl:∀(j:Nat) d,cs[j]?=some d→AV.leaf d=true)
  (hr:∀(j:Nat) d,cs[j]?=some d→bL w M (cv j) d):bL w M (.pointer (some ⟨b,o+off,none⟩)) (.pc cs off)
 | clo (f:FuncId)(vs:List Value)(cs:List AV)(hn:vs.length=cs.length)
  (hr:∀(j:Nat) d,cs[j]?=some d→bL w M (vs.getD j undef) d):bL w M (.func (.func f) #[] vs.toArray) (.clo f cs)
 | mp (r:Nat)(es:Array MapEntry)(clock:Nat)(ks:List Value)(vs:List AV)(hM:¬M r)(hb:r<w.heap.size)(hc:w.heap[r]?=some (.map es clock))(hk:es.toList.map (·.key)=ks)(hn:ks.length=vs.length)
  (hr:∀(j:Nat) d,vs[j]?=some d→bL w M ((es.toList.map (·.val)).getD j undef) d):bL w M (.map (some r)) (.mp ks vs)
variable{M:Nat→Prop}
theorem bL.mono {w:World}{M':Nat→Prop}{d:AV}(h:bL w M v d)(hs:w.heap.size≤w'.heap.size)
   (hb:∀b,b<w.heap.size→¬M b→w'.heap[b]?=w.heap[b]?)(hM:∀b,b<w.heap.size→¬M b→¬M' b):bL w' M' v d:=by
 induction h with
 | sc v h=>exact .sc v h
 | sl a n cap xs k cv hn hc hk hbl hl hr ih =>
   refine .sl a n cap xs k cv hn hc hk (fun h0=>?_) hl ih;obtain⟨b,o,e,h1,h2,h3⟩:=hbl h0;exact⟨b,o,e,hM b h2 h1,adh,fun j hj=>(World.cell?_of_block (w:=w) (hb b h2 h1)).trans (h3 j hj)⟩
 | agg vs cs hn hl hr ih=>exact .agg vs cs hn hl ih
 | tup vs cs hn hr ih=>exact .tup vs cs hn ih
 | pc b o off cs cv h1 h2 hc hl hr ih =>
   exact .pc b o off cs cv (hM b h2 h1) adh (fun j hj=>(World.cell?_of_block (w:=w) (hb b h2 h1)).trans (hc j hj)) hl ih
 | clo f vs cs hn hr ih=>exact .clo f vs cs hn ih
 | mp r es clock ks vs h1 h2 hc hk hn hr ih=>exact .mp r es clock ks vs (hM r h2 h1) adh ((hb r h2 h1).trans hc) hk hn ih
theorem bL.cm {w:World}{M':Nat→Prop}{d:AV}(h:bL w M v d)(hM:∀b,M' b→M b):bL w M' v d :=
 h.mono (aaD _) (fun _ _ _=>rfl) (fun b _ h1 h2=>h1 (hM b h2))
theorem bL.under {D:Prop}{w:World}{d:AV}(h:bL w M v d)(hb:bD D w.heap.size w w'):bL w' M v d :=
 h.mono hb.size (fun b hlt _=>hb.block b hlt) (fun _ _ h=>h)
theorem bL.one {w:World}{d:AV}(h:bL w M v d)(hl:d.leaf=true):v.oneCell'=true:=by cases h<;>simp_all [AV.leaf,Value.oneCell']
theorem bL.cells {w:World}{d:AV}(h:bL w M v d)(hd:∀vs,d≠.tup vs) :
   v.cells.size=d.cells.length∧(∀(j:Nat) e,d.cells[j]?=some e→AV.leaf e=true)∧∀(j:Nat) e,d.cells[j]?=some e→bL w M (v.cells.getD j undef) e:=by
 cases h with
 | sc _ h =>
   refine⟨?_,?_,?_⟩
   · cases v<;>simp_all [Value.cells,AV.cells,Value.oneCell']
   · intro j e he
     cases j with
     | zero=>simp[AV.cells] at he;subst he;rfl
     | succ j=>simp[AV.cells] at he
   · intro j e he
     cases j with
     | zero =>
       simp[AV.cells] at he;subst he;have:v.cells=#[v]:=by cases v<;>simp_all [Value.cells,Value.oneCell']
       rw[this];exact .sc v h
     | succ j=>simp[AV.cells] at he
 | sl a n cap xs k cv hn hc hk hbl hl hr =>
   refine⟨by simp[Value.cells,AV.cells],fun j e he=>?_,fun j e he=>?_⟩<;>cases j<;>simp[AV.cells] at he<;>subst he
   · rfl
   · exact .sl a n cap xs k cv hn hc hk hbl hl hr
 | agg vs cs hn hl hr=>exact⟨by simp[Value.cells,AV.cells,hn],hl,fun j e he=>by simpa[Value.cells] using hr j e he⟩
 | tup vs cs hn hr=>exact absurd rfl (hd _)
 | pc b o off cs cv h1 h2 hc hl hr =>
   refine⟨by simp[Value.cells,AV.cells],fun j e he=>?_,fun j e he=>?_⟩<;>cases j<;>simp[AV.cells] at he<;>subst he
   · rfl
   · exact .pc b o off cs cv h1 h2 hc hl hr
 | clo f vs cs hn hr =>
   refine⟨by simp[Value.cells,AV.cells],fun j e he=>?_,fun j e he=>?_⟩<;>cases j<;>simp[AV.cells] at he<;>subst he
   · rfl
   · exact .clo f vs cs hn hr
 | mp r es clock ks vs h1 h2 hc hk hn hr =>
   refine⟨by simp[Value.cells,AV.cells],fun j e he=>?_,fun j e he=>?_⟩<;>cases j<;>simp[AV.cells] at he<;>subst he
   · rfl
   · exact .mp r es clock ks vs h1 h2 hc hk hn hr
inductive fX where
 | pl|mx|vw
 deriving DecidableEq,Inhabited
inductive qw where
 | bx (id:Nat)
 | pl (d:AV)
 | ow (id:Nat)
 | om (id:Nat)
 deriving Inhabited
inductive SV where
 | v (c:fX)(d:AV)
 | own (id:Nat)
 | pel (id i off:Nat)
 | pbox (id off:Nat)
 | omap (id:Nat)
 | vsl (id i n:Nat)
 | fn (f:FuncId)(caps:List qw)
 | hid (R:Value→List Value→Prop)(caps:List qw)
 | nst (id:Nat)
 | nel (id j:Nat)
 | dead
 deriving Inhabited
inductive Cell where
 | d (x:AV)
 | row (e:TypeId)(xs:List AV)
 | mp (ks:List Value)(vs:List AV)
 deriving Inhabited
inductive eh where
 | no
 | arr (u:Nat)
 | map (u:Nat)
 deriving Inhabited
inductive Ob where
 | arr (e:TypeId)(xs:List AV)
 | box (e:TypeId)(cs:List SV)
 | mp (ks:List Value)(vs:List AV)
 | nar (e:TypeId)(cs:List Cell)(ln:Option (Nat×eh))
 | nmp (ks:List Value)(cs:List Cell)(ln:Option (Nat×eh))
 deriving Inhabited
structure St where
 n:Nat
 s:List (Nat×SV)
 o:List (Nat×Ob)
 deriving Inhabited
structure Env where
 cur:Nat→Value
 blk:Nat→Nat
 sub:Nat→Nat→Value
def SV.leaf:SV→Bool
 | .v _ d=>d.leaf
 | _=>true
def Du (v:Value)(b:Nat):Cell→Prop
 | .d _=>False
 | .row _ _=>v.ownBlock=some b
 | .mp _ _=>v=.map (some b)
def fY (f:Nat→Value)(b:Nat)(cs:List Cell)(ln:Option (Nat×eh)):Prop:=∃j c,cs[j]?=some c∧ln.map (·.1)≠some j∧Du (f j) b c
def bG (E:Env)(id:Nat)(b:Nat):Ob→Prop
 | .arr _ _=>(E.cur id).ownBlock=some b
 | .box _ _=>E.blk id=b
 | .mp _ _=>E.blk id=b
 | .nar _ cs ln=>(E.cur id).ownBlock=some b∨fY (E.sub id) b cs ln
 | .nmp _ cs ln=>E.blk id=b∨fY (E.sub id) b cs ln
def owned (E:Env)(o:List (Nat×Ob))(b:Nat):Prop:=∃id ob,o.lookup id=some ob∧bG E id b ob
def cI (M0 own:Nat→Prop):fX→Nat→Prop
 | .pl,b=>M0 b∨own b
 | .mx,b=>own b
 | .vw,_=>False
def LB (w0:Fr)(M0:Nat→Prop)(w:World)(e:TypeId)(k:Nat)(v:Value)(n:Nat)(xs:List Value):Prop:=w.ownsRow 0 e k v n xs∧∀b,v.ownBlock=some b→mK w0 M0 b
variable{E:Env}{f:Nat→Value}{cs:List Cell}{ln:Option (Nat×eh)}{n:Nat}{o':List (Nat×Ob)}
section
variable (P:Program) (w0:Fr)(M0:Nat→Prop)
def Dw (w:World)(E:Env)(o:List (Nat×Ob))(v:Value):qw→Prop
 | .bx id=>∀e cs,o.lookup id=some (.box e cs)→v=.pointer (some ⟨E.blk id,0,none⟩)
 | .pl d=>bL w (cI M0 (owned E o) .pl) v d
 | .ow id=>∀e xs,o.lookup id=some (.arr e xs)→v=E.cur id
 | .om id=>∀ks vs,o.lookup id=some (.mp ks vs)→v=.map (some (E.blk id))
def bm (w:World)(E:Env)(o:List (Nat×Ob))(v:Value):SV→Prop
 | .v c d=>bL w (cI M0 (owned E o) c) v d
 | .own id=>∀e xs,o.lookup id=some (.arr e xs)→v=E.cur id
 | .pel id i off=>∀e xs,o.lookup id=some (.arr e xs)→i<xs.length ∧
  ∃g,(E.cur id).ownBlock=some g∧v=.pointer (some ⟨g,i*P.cellsOf e+off,none⟩)
 | .pbox id off=>∀e cs,o.lookup id=some (.box e cs)→v=.pointer (some ⟨E.blk id,off,none⟩)
 | .omap id=>∀ks vs,o.lookup id=some (.mp ks vs)→v=.map (some (E.blk id))
 | .vsl id i n=>∀e xs,o.lookup id=some (.arr e xs)→i+n≤xs.length∧∃a len cap,E.cur id=.slice a len cap∧v=sliced a i (i+n) cap (P.cellsOf e)
 | .fn f caps=>∃vs:List Value,v=.func (.func f) #[] vs.toArray∧vs.length=caps.length∧∀(j:Nat) c,caps[j]?=some c→Dw M0 w E o (vs.getD j undef) c
 | .hid R caps=>∃vs:List Value,R v vs∧vs.length=caps.length∧∀(j:Nat) c,caps[j]?=some c→Dw M0 w E o (vs.getD j undef) c
 | .nst id=>(∀e cs ln,o.lookup id=some (.nar e cs ln)→v=E.cur id)∧∀ks cs ln,o.lookup id=some (.nmp ks cs ln)→v=.map (some (E.blk id))
 | .nel id j=>∀e cs ln,o.lookup id=some (.nar e cs ln)→j<cs.length∧∃g,(E.cur id).ownBlock=some g∧v=.pointer (some ⟨g,j,none⟩)
 | .dead=>True
def sK (w:World)(E:Env)(o:List (Nat×Ob))(e:TypeId)(xs:List AV)(v:Value):Prop :=
 ∃vals,LB w0 M0 w e (P.cellsOf e) v xs.length vals∧(∀x∈xs,(AV.cells x).length=P.cellsOf e) ∧
  (∀(j:Nat) d,(flat xs)[j]?=some d→AV.leaf d=true∧bL w (cI M0 (owned E o) .pl) (vals.getD j undef) d)
def Yv (w:World)(E:Env)(o:List (Nat×Ob))(ks:List Value)(vs:List AV)(b:Nat):Prop :=
 ∃es clock,w.heap[b]?=some (.map es clock)∧mK w0 M0 b∧es.toList.map (·.key)=ks∧ks.length=vs.length ∧
  (∀(j:Nat) d,vs[j]?=some d→bL w (cI M0 (owned E o) .pl) ((es.toList.map (·.val)).getD j undef) d)
def np (w:World)(E:Env)(o:List (Nat×Ob))(v:Value):Cell→Prop
 | .d x=>AV.leaf x=true∧bL w (cI M0 (owned E o) .pl) v x
 | .row e xs=>sK P w0 M0 w E o e xs v
 | .mp ks vs=>∃b,v=.map (some b)∧Yv w0 M0 w E o ks vs b
structure js (w:World)(E:Env)(o:List (Nat×Ob))(f:Nat→Value)(cs:List Cell)(ln:Option (Nat×eh)):Prop where
 ok:∀(j:Nat) c,cs[j]?=some c→ln.map (·.1)≠some j→np P w0 M0 w E o (f j) c
 apart:∀(i j:Nat) ci cj b,cs[i]?=some ci→cs[j]?=some cj→ln.map (·.1)≠some i→ln.map (·.1)≠some j→Du (f i) b ci→Du (f j) b cj→i=j
 larr:∀(j:Nat) u,ln=some (j,.arr u)→f j=E.cur u
 lmap:∀(j:Nat) u,ln=some (j,.map u)→f j=.map (some (E.blk u))
def kP (w:World)(E:Env)(o:List (Nat×Ob))(id:Nat):Ob→Prop
 | .arr e xs=>∃vals,LB w0 M0 w e (P.cellsOf e) (E.cur id) xs.length vals∧(∀x∈xs,(AV.cells x).length=P.cellsOf e) ∧
  (∀(j:Nat) d,(flat xs)[j]?=some d→AV.leaf d=true∧bL w (cI M0 (owned E o) .pl) (vals.getD j undef) d)
 | .box e cs=>∃vals:List Value,w.heap[E.blk id]?=some (.cells vals.toArray e (0,0))∧mK w0 M0 (E.blk id)∧vals.length=cs.length ∧
  (∀(j:Nat) s,cs[j]?=some s→SV.leaf s=true∧(vals.getD j undef).oneCell'=true∧bm P M0 w E o (vals.getD j undef) s)
 | .mp ks vs=>∃es clock,w.heap[E.blk id]?=some (.map es clock)∧mK w0 M0 (E.blk id)∧es.toList.map (·.key)=ks∧ks.length=vs.length ∧
  (∀(j:Nat) d,vs[j]?=some d→bL w (cI M0 (owned E o) .pl) ((es.toList.map (·.val)).getD j undef) d)
 | .nar e cs ln=>∃n vals,LB w0 M0 w e (P.cellsOf e) (E.cur id) n vals∧cs.length=n*P.cellsOf e ∧
  (∀(j:Nat),j<cs.length→vals.getD j undef=E.sub id j)∧js P w0 M0 w E o (E.sub id) cs ln ∧
  ∀b,fY (E.sub id) b cs ln→(E.cur id).ownBlock≠some b
 | .nmp ks cs ln=>∃es clock,w.heap[E.blk id]?=some (.map es clock)∧mK w0 M0 (E.blk id)∧es.toList.map (·.key)=ks∧ks.length=cs.length ∧
  (∀(j:Nat),j<cs.length→(es.toList.map (·.val)).getD j undef=E.sub id j)∧js P w0 M0 w E o (E.sub id) cs ln ∧
  ∀b,fY (E.sub id) b cs ln→E.blk id≠b
structure gu (E:Env)(o:List (Nat×Ob))(w:World):Prop where
 objs:∀id ob,o.lookup id=some ob→kP P w0 M0 w E o id ob
 disj:∀id ob id' ob' b,o.lookup id=some ob→o.lookup id'=some ob'→bG E id b ob→bG E id' b ob'→id=id'
 below:xj w0.dr w0.K w0.w w
 pins:∀x∈w0.pin,E.blk x.1=x.2
def Marks (w0:Fr)(a:Act)(w:World):Prop :=
 match w0.md with
 | .marks=>∃Ds:List Nat,a.defers=Ds.map (fun D=>{ target:=.collected D,args:=#[] })∧Ds.Pairwise (·≠·)∧∀D∈Ds,w0.w.heap.size≤D∧w.heap[D]?=some (.deferred (some []))
 | _=>a.defers=[]
structure ba (E:Env)(s:St)(a:Act)(w:World):Prop where
 size:a.tmps.size=s.n
 defers:Marks w0 a w
 slots:∀t d,s.s.lookup t=some d→t<s.n∧bm P M0 w E s.o (a.tmps.getD t undef) d
 wok:gu P w0 M0 E s.o w
def pv (s:St)(a:Act)(w:World):Prop:=∃E,ba P w0 M0 E s a w
variable {P w0 M0}
theorem gx {w:World}{b:Nat}{x:Obj}(h1:w.heap[b]?=some x):b<w.heap.size:=by
 rcases aa9 b w.heap.size with hlt|hge
 ·exact hlt
 ·rw[acF hge] at h1;cases h1
theorem np.range {w:World}{o:List (Nat×Ob)}{b:Nat}{c:Cell}(h:np P w0 M0 w E o v c)(hb:Du v b c):mK w0 M0 b∧b<w.heap.size:=by
 cases c with
 | d x=>exact hb.elim
 | row e xs =>
   obtain⟨vals,h1,_⟩:=h;exact⟨h1.2 b hb,(h1.1.lt b hb).2⟩
 | mp ks vs =>
   obtain⟨b',e,es,clock,h1,h2,_⟩:=h;rw[show v=_ from hb] at e;injection e with e;injection e with e;subst e;exact⟨h2,gx h1⟩
theorem js.range {w:World}{o:List (Nat×Ob)}{b:Nat}(h:js P w0 M0 w E o f cs ln)(hb:fY f b cs ln):mK w0 M0 b∧b<w.heap.size:=by obtain⟨j,c,hc,hl,hb⟩:=hb;exact(h.ok j c hc hl).range hb
theorem kP.dG {w:World}{o:List (Nat×Ob)}{id b:Nat}{ob:Ob}(h:kP P w0 M0 w E o id ob)(hb:bG E id b ob):mK w0 M0 b∧b<w.heap.size:=by
 cases ob with
 | arr e xs =>
   obtain⟨vals,h1,_⟩:=h;exact⟨h1.2 b hb,(h1.1.lt b hb).2⟩
 | box e cs =>
   obtain⟨vals,h1,h2,_⟩:=h;simp only[bG] at hb;subst hb;refine⟨h2,?_⟩;rcases aa9 (E.blk id) w.heap.size with hlt|hge
   · exact hlt
   · rw[acF hge] at h1;cases h1
 | mp ks vs =>
   obtain⟨es,clock,h1,h2,_⟩:=h;simp only[bG] at hb;subst hb;refine⟨h2,?_⟩;rcases aa9 (E.blk id) w.heap.size with hlt|hge
   · exact hlt
   · rw[acF hge] at h1;cases h1
 | nar e cs ln =>
   obtain⟨n,vals,h1,_,_,h4,_⟩:=h;rcases hb with hb|hb
   · exact⟨h1.2 b hb,(h1.1.lt b hb).2⟩
   · exact h4.range hb
 | nmp ks cs ln =>
   obtain⟨es,clock,h1,h2,_,_,_,h4,_⟩:=h;rcases hb with hb|hb
   · subst hb;exact⟨h2,gx h1⟩
   · exact h4.range hb
theorem gu.bH {o:List (Nat×Ob)}{w:World}(h:gu P w0 M0 E o w){b:Nat}(hb:owned E o b):mK w0 M0 b∧b<w.heap.size:=by obtain⟨id,ob,h1,h2⟩:=hb;exact(h.objs id ob h1).dG h2
theorem gu.ia {o:List (Nat×Ob)}{w:World}(h:gu P w0 M0 E o w)(ae:∀b,M0 b→b<w0.w.heap.size){b:Nat}(hb:w.heap.size≤b):mK w0 M0 b :=
 ⟨fun hk=>by have:=w0.hK b hk;have:=h.below.size;omega,fun hm=>by have:=ae b hm;have:=h.below.size;omega⟩
theorem bm.below {D:Prop}{w:World}{o:List (Nat×Ob)}{d:SV}(h:bm P M0 w E o v d)(hb:bD D w.heap.size w w'):bm P M0 w' E o v d:=by
 cases d with
 | v c d=>exact bL.under h hb
 | own id=>exact h
 | pel id i off=>exact h
 | pbox id off=>exact h
 | omap id=>exact h
 | vsl id i n=>exact h
 | fn f caps =>
   obtain⟨vs,h1,h2,h3⟩:=h;refine⟨vs,h1,h2,fun j c hc=>?_⟩;have:=h3 j c hc;cases c with
   | bx id=>exact this
   | pl d=>exact bL.under this hb
   | ow id=>exact this
   | om id=>exact this
 | hid f caps =>
   obtain⟨vs,h1,h2,h3⟩:=h;refine⟨vs,h1,h2,fun j c hc=>?_⟩;have:=h3 j c hc;cases c with
   | bx id=>exact this
   | pl d=>exact bL.under this hb
   | ow id=>exact this
   | om id=>exact this
 | nst id=>exact h
 | nel id j=>exact h
 | dead=>exact h
theorem dH {D:Prop}{w:World}(hb:bD D w.heap.size w w'):w.grownBy w' none :=
 ⟨hb.os,hb.tape,hb.output,hb.size,fun k hk _=>hb.block k hk⟩
theorem km {w:World}{base:Nat}{e:TypeId}{k:Nat}{xs:List Value}(h:w.ownsRow base e k v n xs)(hk:∀g,v.ownBlock=some g→w'.heap[g]?=w.heap[g]?):w'.ownsRow base e k v n xs:=by
 refine⟨h.1,?_⟩;rcases h.2 with h1|⟨g,cap,cur,hv,h2,h3,h4⟩
 ·exact .inl h1
 ·exact .inr ⟨g,cap,cur,hv,h2,by rw[hk g (by rw[hv];rfl)];exact h3,h4⟩
theorem np.go {w:World}{w1:Fr}{M1:Nat→Prop}{E':Env}{o:List (Nat×Ob)}{c:Cell}(h:np P w0 M0 w E o v c)(hk:∀b,Du v b c→w'.heap[b]?=w.heap[b]?)(hf:∀b,Du v b c→mK w0 M0 b→mK w1 M1 b)
   (rep:∀v d,bL w (cI M0 (owned E o) .pl) v d→bL w' (cI M1 (owned E' o') .pl) v d):np P w1 M1 w' E' o' v c:=by
 cases c with
 | d x=>exact⟨h.1,rep _ _ h.2⟩
 | row e xs =>
   obtain⟨vals,h1,h2,h3⟩:=h;exact⟨vals,⟨km h1.1 fun g hg=>hk g hg,fun b hb=>hf b hb (h1.2 b hb)⟩,h2,fun j d hd=>⟨(h3 j d hd).1,rep _ _ (h3 j d hd).2⟩⟩
 | mp ks vs =>
   obtain⟨b,e,es,clock,h1,h2,h3,h4,h5⟩:=h;exact⟨b,e,es,clock,by rw[hk b e];exact h1,hf b e h2,h3,h4,fun j d hd=>rep _ _ (h5 j d hd)⟩
structure nq (E E':Env)(ln ln':Option (Nat×eh)):Prop where
 fst:ln'.map (·.1)=ln.map (·.1)
 larr:∀j u',ln'=some (j,.arr u')→∃u,ln=some (j,.arr u)∧E'.cur u'=E.cur u
 lmap:∀j u',ln'=some (j,.map u')→∃u,ln=some (j,.map u)∧E'.blk u'=E.blk u
theorem nq.refl (E:Env)(ln:Option (Nat×eh)):nq E E ln ln:=⟨rfl,fun j u h=>⟨u,h,rfl⟩,fun j u h=>⟨u,h,rfl⟩⟩
theorem js.go {w:World}{w1:Fr}{M1:Nat→Prop}{E':Env}{o:List (Nat×Ob)}{ln':Option (Nat×eh)}(h:js P w0 M0 w E o f cs ln)(hl:nq E E' ln ln')(hk:∀b,fY f b cs ln→w'.heap[b]?=w.heap[b]?)(hf:∀b,fY f b cs ln→mK w0 M0 b→mK w1 M1 b)
  (rep:∀v d,bL w (cI M0 (owned E o) .pl) v d→bL w' (cI M1 (owned E' o') .pl) v d):js P w1 M1 w' E' o' f cs ln' :=
 ⟨fun j c hc hj => by
  rw[hl.fst] at hj;exact(h.ok j c hc hj).go (fun b hb=>hk b ⟨j,c,hc,hj,hb⟩) (fun b hb=>hf b ⟨j,c,hc,hj,hb⟩) rep,fun i j ci cj b hi hj h1 h2=>by
  rw[hl.fst] at h1 h2;exact h.apart i j ci cj b hi hj h1 h2,fun j u hu=>by
  obtain⟨u0,h1,h2⟩:=hl.larr j u hu;rw[h2];exact h.larr j u0 h1,fun j u hu=>by
  obtain⟨u0,h1,h2⟩:=hl.lmap j u hu;rw[h2];exact h.lmap j u0 h1⟩
theorem js.cm {w:World}{o:List (Nat×Ob)}(h:js P w0 M0 w E o f cs ln)(hown:∀b,owned E o' b→owned E o b):js P w0 M0 w E o' f cs ln :=
 h.go (.refl E ln) (fun _ _=>rfl) (fun _ _ hf=>hf) fun v d hr=>hr.cm fun b hb=>hb.imp id (hown b)
theorem js.below {D:Prop}{w:World}{o:List (Nat×Ob)}(h:js P w0 M0 w E o f cs ln)(hb:bD D w.heap.size w w'):js P w0 M0 w' E o f cs ln :=
 h.go (.refl E ln) (fun b hs=>hb.block b (h.range hs).2) (fun _ _ hf=>hf) fun v d hr=>hr.under hb
theorem kP.below {D:Prop}{w:World}{o:List (Nat×Ob)}{id:Nat}{ob:Ob}(h:kP P w0 M0 w E o id ob)(hb:bD D w.heap.size w w'):kP P w0 M0 w' E o id ob:=by
 cases ob with
 | arr e xs =>
   obtain⟨vals,h1,h2,h3⟩:=h;refine⟨vals,⟨h1.1.kept (dH hb) ?_,h1.2⟩,h2,fun j d hd=>⟨(h3 j d hd).1,(h3 j d hd).2.under hb⟩⟩;cases(E.cur id).ownBlock<;>simp
 | box e cs =>
   obtain⟨vals,h1,h2,h3,h4⟩:=h;refine⟨vals,?_,h2,h3,fun j s hs=>⟨(h4 j s hs).1,(h4 j s hs).2.1,(h4 j s hs).2.2.below hb⟩⟩;have hlt:E.blk id<w.heap.size:=by
     rcases aa9 (E.blk id) w.heap.size with hlt|hge
     · exact hlt
     · rw[acF hge] at h1;cases h1
   rw[hb.block _ hlt];exact h1
 | mp ks vs =>
   have hlt:=(kP.dG h rfl).2;obtain⟨es,clock,h1,h2,h3,h4,h5⟩:=h;exact⟨es,clock,by rw[hb.block _ hlt];exact h1,h2,h3,h4,fun j d hd=>(h5 j d hd).under hb⟩
 | nar e cs ln =>
   obtain⟨n,vals,h1,h2,h3,h4,h5⟩:=h;refine⟨n,vals,⟨h1.1.kept (dH hb) ?_,h1.2⟩,h2,h3,h4.below hb,h5⟩;cases(E.cur id).ownBlock<;>simp
 | nmp ks cs ln =>
   obtain⟨es,clock,h1,h2,h3,h4,h5,h6,h7⟩:=h;exact⟨es,clock,by rw[hb.block _ (gx h1)];exact h1,h2,h3,h4,h5,h6.below hb,h7⟩
theorem gu.grow {o:List (Nat×Ob)}{w:World}(h:gu P w0 M0 E o w)(hb:bD w0.dr w.heap.size w w'):gu P w0 M0 E o w' :=
 ⟨fun id ob ho=>(h.objs id ob ho).below hb,h.disj,h.below.trans (hb.PW fun b hk=>abj (w0.hK b hk) h.below.size),h.pins⟩
theorem Marks.nil {a:Act}{w:World}(h:a.defers=[]):Marks w0 a w:=by
 unfold Marks;split
 ·exact⟨[],h,.nil,fun D hD=>by cases hD⟩
 ·exact h
theorem Marks.same {a a':Act}{w:World}(h:Marks w0 a w)(ha:a'.defers=a.defers)(hs:∀D:Nat,w.heap[D]?=some (Obj.deferred (some []))→w'.heap[D]?=some (Obj.deferred (some []))):Marks w0 a' w':=by
 unfold Marks at h ⊢;split
 ·next hm =>
  rw[hm] at h;obtain⟨Ds,h1,h2,h3⟩:=h;exact⟨Ds,ha.trans h1,h2,fun D hD=>⟨(h3 D hD).1,hs D (h3 D hD).2⟩⟩
 ·next hm =>
  split at h
  ·next hm2=>exact absurd hm2 hm
  ·exact ha.trans h
theorem Marks.below {a:Act}{w:World}{D:Prop}(h:Marks w0 a w)(hb:bD D w.heap.size w w'):Marks w0 a w':=h.same rfl fun D hD=>(hb.block D (gx hD)).trans hD
theorem ba.grow {s:St}{a:Act}{w:World}(h:ba P w0 M0 E s a w)(hb:bD w0.dr w.heap.size w w'):ba P w0 M0 E s a w' :=
 ⟨h.size,h.defers.below hb,fun t d hd=>⟨(h.slots t d hd).1,(h.slots t d hd).2.below hb⟩,h.wok.grow hb⟩
theorem pv.grow {s:St}{a:Act}{w:World}(h:pv P w0 M0 s a w)(hb:bD w0.dr w.heap.size w w'):pv P w0 M0 s a w' :=
 let⟨E,h⟩:=h
 ⟨E,h.grow hb⟩
end
abbrev vvw (d:AV):SV:=.v .pl d
abbrev vvz (d:AV):SV:=.v .mx d
abbrev vvv:SV:=.v .pl (.sc (.slice none 0 0))
def ins {α:Type}(t:Nat)(d:α):List (Nat×α)→List (Nat×α)
 | []=>[(t,d)]
 | (u,e) :: r=>if t<u then(t,d) :: (u,e) :: r else if t=u then(t,d) :: r else(u,e) :: ins t d r
theorem aq (u t:Nat)(d:α)(r:List (Nat×α)):List.lookup u ((t,d) :: r)=if u=t then some d else r.lookup u:=by
 by_cases h:u=t
 ·subst h;simp[List.lookup]
 ·have:(u == t)=false:=by simpa using h
  simp[List.lookup,this,h]
theorem aC (t u:Nat)(d:α)(l:List (Nat×α)):(ins t d l).lookup u=if u=t then some d else l.lookup u:=by
 induction l with
 | nil=>simp[ins,aq]
 | cons p r ih =>
   obtain⟨x,e⟩:=p;unfold ins;split
   · rw[aq,aq]
   · split
     · rename_i h2
       subst h2;rw[aq,aq];split<;>simp_all
     · rename_i h2
       rw[aq,ih,aq];by_cases ha:u=x
       · subst ha;simp[abN h2]
       · simp[ha]
def St.put (s:St)(t:Nat)(d:SV):St:={ s with s:=ins t d s.s }
variable{u:Value}
section
variable {P:Program} {w0:Fr}{M0:Nat→Prop}
theorem ba.put {s:St}{a:Act}{w:World}(h:ba P w0 M0 E s a w){t:Nat}(ht:t<s.n){d:SV}(hv:bm P M0 w E s.o v d) :
  ba P w0 M0 E (s.put t d) (a.put (some t) v) w:=by
 refine⟨by simpa[Act.put,St.put] using h.size,h.defers.same J fun _ h=>h,fun u e he=>?_,h.wok⟩;simp only[St.put] at he ⊢;rw[aC] at he;by_cases hu:u=t
 ·subst hu;simp only[if_true,aaB] at he;subst he;refine⟨ht,?_⟩;have:(a.put (some u) v).tmps.getD u undef=v:=by
   have:=h.size;simp[Act.put,abc,this,ht]
  rw[this];exact hv
 ·rw[if_neg hu] at he;have:=h.slots u e he;refine⟨this.1,?_⟩;have hq:(a.put (some t) v).tmps.getD u undef=a.tmps.getD u undef:=by
   simp[Act.put,abc,abN hu]
  rw[hq];exact this.2
def BN:Value→Option AV
 | .agg cs=>bif cs.toList.all Value.oneCell' then some (.agg (cs.toList.map .sc)) else none
 | .tuple _=>none
 | v=>some (.sc v)
def St.ev (s:St):Operand→Option SV
 | .tmp t=>s.s.lookup t
 | .const v=>(BN v).map (.v .pl)
 | .func f=>some (.v .pl (.clo f []))
 | .global _=>none
theorem xk {w:World}   {d:AV} (h:BN v=some d):bL w M v d:=by
 unfold BN at h;split at h
 · rename_i cs
   cases hc:cs.toList.all Value.oneCell'
   · simp[hc] at h
   · simp only [hc, cond_true, aaB] at h
     subst h;rw[aa5] at hc;have:=bL.agg (w:=w) (M:=M) cs.toList (cs.toList.map .sc) (by simp) (fun j d hd=>by
         simp at hd;obtain⟨x,_,rfl⟩:=hd;rfl) (fun j d hd=>by
         rw[aaI] at hd;cases hx:cs.toList[j]? with
         | none=>simp[hx] at hd
         | some x =>
           rw[hx] at hd;simp only[abu,aaB] at hd;subst hd;rw[aax,hx];exact .sc x (hc x (abm hx)))
     simpa using this
 · cases h
 · simp only [aaB] at h
   subst h;exact .sc v (by cases v<;>simp_all [Value.oneCell'])
theorem ba.ev {s:St}{a:Act}{w:World}(h:ba P w0 M0 E s a w){x:Operand}{d:SV}(hx:s.ev x=some d):bm P M0 w E s.o (a.eval x) d:=by
 cases x with
 | tmp t=>exact(h.slots t d hx).2
 | const v =>
   simp only[St.ev,aaH] at hx;obtain⟨e,he,rfl⟩:=hx;exact xk he
 | func f =>
   simp only[St.ev,aaB] at hx;subst hx;exact .clo f [] [] J (fun j d hd=>by simp at hd)
 | global g=>cases hx
def sM (P:Program)(ev:Operand→Value)(o:Oper)(w:World)(R:Value→World→Prop):Prop :=
 match(execOp ev o).run P w with
 | .ok (.value v) w'=>R v w'
 | .ok (.enter f args) w'=>w'=w∧Calls P f args w (fun e w''=>∃v,e=.returned v∧R v w'')
 | _=>False
def Pure (P:Program)(w0:Fr)(M0:Nat→Prop)(o:Oper)(ρ:Operand→Option SV)(ob:List (Nat×Ob))(d:SV):Prop :=
 ∀ (E : Env) (w : World) (ev : Operand → Value), gu P w0 M0 E ob w → (∀ x e, ρ x = some e → bm P M0 w E ob (ev x) e) →
   sM P ev o w (fun v w'=>bD w0.dr w.heap.size w w'∧bm P M0 w' E ob v d)
def Step (P:Program)(w0:Fr)(M0:Nat→Prop)(o:Oper)(s s':St):Prop :=
 ∀a w Q,pv P w0 M0 s a w→o.wp P a w (fun a' w'=>pv P w0 M0 s' a' w') Q
theorem lQ {o:Oper}{s:St}{t:Nat}{d:SV}(hd:o.dst=some t)(ht:t<s.n)(h:Pure P w0 M0 o s.ev s.o d):Step P w0 M0 o s (s.put t d):=by
 rintro a w Q ⟨E,hs⟩;have hy:=h E w a.eval hs.wok (fun x e hx=>hs.ev hx);unfold sM at hy;unfold Oper.wp;generalize (execOp a.eval o).run P w=r at *
 match r,hy with
 | .ok (.value v) w', hy =>
   simp only[Oper.upon,hd];exact⟨E,(hs.grow hy.1).put ht hy.2⟩
 | .ok (.enter f args) w', hy =>
   obtain⟨rfl,hc⟩:=hy;simp only[Oper.upon];refine hc.mono fun e w'' ⟨v,he,hb,hv⟩=>?_
   subst he;rw[hd];exact⟨E,(hs.grow hb).put ht hv⟩
theorem aJ {o:Oper}{ρ:Operand→Option SV}{ob:List (Nat×Ob)}{d:SV}
  (h : ∀(E : Env)(w : World)(ev : Operand → Value), gu P w0 M0 E ob w → (∀x e, ρ x = some e → bm P M0 w E ob (ev x) e) →
   ∃v w',(execOp ev o).run P w=.ok (.value v) w'∧bD w0.dr w.heap.size w w'∧bm P M0 w' E ob v d):Pure P w0 M0 o ρ ob d:=by
 intro E w ev hw hx;obtain⟨v,w',h1,h2⟩:=h E w ev hw hx;unfold sM;rw[h1];exact h2
section ops
variable {o:Oper} {ρ:Operand→Option SV}{ob:List (Nat×Ob)}{d:SV}{x y:Operand}
theorem cO (ho:o.op=.move x)(hx:ρ x=some d):Pure P w0 M0 o ρ ob d :=
 aJ fun E w ev hw h=>⟨ev x,w,by simp[execOp,ho],.refl _ _,h x d hx⟩
theorem kQ (ho:o.op=.assign x)(hx:ρ x=some d):Pure P w0 M0 o ρ ob d :=
 aJ fun E w ev hw h=>⟨ev x,w,by simp[execOp,ho],.refl _ _,h x d hx⟩
def SV.val:SV→Option Value
 | .v _ (.sc u)=>some u
 | _=>none
theorem bm.val {w:World}{o:List (Nat×Ob)}{d:SV}(h:bm P M0 w E o v d)(hd:d.val=some u):v=u:=by
 cases d with
 | v c d =>
   cases d with
   | sc z =>
     simp only[SV.val,aaB] at hd;subst hd;cases h;rfl
   | _=>cases hd
 | _=>cases hd
def bg (ρ:Operand→Option SV)(x:Operand):Option Value:=(ρ x).bind SV.val
theorem bZ {w:World}{ev:Operand→Value}(h:∀x e,ρ x=some e→bm P M0 w E ob (ev x) e)(hx:bg ρ x=some u):ev x=u:=by
 unfold bg at hx;cases hr:ρ x with
 | none=>rw[hr] at hx;cases hx
 | some e=>rw[hr] at hx;exact(h x e hr).val hx
theorem R0 {w:World}{o:List (Nat×Ob)}{c:fX}(h:v.oneCell'=true):bm P M0 w E o v (.v c (.sc v)):=.sc v h
theorem lR (hu:u.oneCell'=true)(h:∀(w:World)(ev:Operand→Value),(∀x v,bg ρ x=some v→ev x=v)→(execOp ev o).run P w=.ok (.value u) w) :
  Pure P w0 M0 o ρ ob (.v .pl (.sc u)) :=
 aJ fun E w ev hw hx=>⟨u,w,h w ev (fun x v hv=>bZ hx hv),.refl _ _,R0 hu⟩
section
variable {op:BinOp} {T T':TypeId}{k:IntKind}{a b:Int}
theorem eE {va vb:Value}(ho:o.op=.binOp op T x y T')(hx:bg ρ x=some va)(hy:bg ρ y=some vb)(hu:u.oneCell'=true)
  (hg:eqGuard op T x y va vb=pure ())(hb:∀w,(binOp op T va vb).run P w=.ok u w):Pure P w0 M0 o ρ ob (.v .pl (.sc u)) :=
 lR hu fun w ev h=>by simp[execOp,ho,h x va hx,h y vb hy,hg,hb]
theorem LC (ho:o.op=.binOp .add T x y T')(hx:bg ρ x=some (.int k a))(hy:bg ρ y=some (.int k b)):Pure P w0 M0 o ρ ob (.v .pl (.sc (.int k (k.wrap (a+b))))) :=
 eE ho hx hy rfl (by simp[go_sem]) (fun w=>by simp[go_sem])
theorem LD (ho:o.op=.binOp .sub T x y T')(hx:bg ρ x=some (.int k a))(hy:bg ρ y=some (.int k b)):Pure P w0 M0 o ρ ob (.v .pl (.sc (.int k (k.wrap (a-b))))) :=
 eE ho hx hy rfl (by simp[go_sem]) (fun w=>by simp[go_sem])
theorem LF (ho:o.op=.binOp .mul T x y T')(hx:bg ρ x=some (.int k a))(hy:bg ρ y=some (.int k b)):Pure P w0 M0 o ρ ob (.v .pl (.sc (.int k (k.wrap (a*b))))) :=
 eE ho hx hy rfl (by simp[go_sem]) (fun w=>by simp[go_sem])
theorem LG (ho:o.op=.binOp .quo T x y T')(hx:bg ρ x=some (.int k a))(hy:bg ρ y=some (.int k b))(hb:b≠0):Pure P w0 M0 o ρ ob (.v .pl (.sc (.int k (k.wrap (a.tdiv b))))) :=
 eE ho hx hy rfl (by simp[go_sem]) (fun w=>by simp[go_sem,Op.intDiv,hb])
theorem LH (ho:o.op=.binOp .rem T x y T')(hx:bg ρ x=some (.int k a))(hy:bg ρ y=some (.int k b))(hb:b≠0):Pure P w0 M0 o ρ ob (.v .pl (.sc (.int k (a.tmod b)))) :=
 eE ho hx hy rfl (by simp[go_sem]) (fun w=>by simp[go_sem,Op.intDiv,hb])
theorem LI (ho:o.op=.binOp .lss T x y T')(hx:bg ρ x=some (.int k a))(hy:bg ρ y=some (.int k b)):Pure P w0 M0 o ρ ob (.v .pl (.sc (.bool (decide (a<b))))) :=
 eE ho hx hy rfl (by simp[go_sem]) (fun w=>by simp[go_sem])
theorem LJ (ho:o.op=.binOp .leq T x y T')(hx:bg ρ x=some (.int k a))(hy:bg ρ y=some (.int k b)):Pure P w0 M0 o ρ ob (.v .pl (.sc (.bool (decide (a≤b))))) :=
 eE ho hx hy rfl (by simp[go_sem]) (fun w=>by simp[go_sem])
theorem LK (ho:o.op=.binOp .gtr T x y T')(hx:bg ρ x=some (.int k a))(hy:bg ρ y=some (.int k b)):Pure P w0 M0 o ρ ob (.v .pl (.sc (.bool (decide (b<a))))) :=
 eE ho hx hy rfl (by simp[go_sem]) (fun w=>by simp[go_sem])
theorem LM (ho:o.op=.binOp .geq T x y T')(hx:bg ρ x=some (.int k a))(hy:bg ρ y=some (.int k b)):Pure P w0 M0 o ρ ob (.v .pl (.sc (.bool (decide (b≤a))))) :=
 eE ho hx hy rfl (by simp[go_sem]) (fun w=>by simp[go_sem])
theorem jN (ho:o.op=.binOp .eql T x y T')(hx:bg ρ x=some (.int k a))(hy:bg ρ y=some (.int k b)):Pure P w0 M0 o ρ ob (.v .pl (.sc (.bool (decide (a=b))))) :=
 eE ho hx hy rfl (by simp[go_sem]) (fun w=>by simp only[binOp_eql,Sem.run_pure];congr)
theorem dD (ho:o.op=.binOp .neq T x y T')(hx:bg ρ x=some (.int k a))(hy:bg ρ y=some (.int k b)):Pure P w0 M0 o ρ ob (.v .pl (.sc (.bool (!decide (a=b))))) :=
 eE ho hx hy rfl (by simp[go_sem]) (fun w=>by simp only[binOp_neq,Sem.run_pure];congr)
theorem Aa {c:Operand}{z:Bool}(ho:o.op=.pick c x y)(hc:bg ρ c=some (.bool z))(hx:ρ (bif z then x else y)=some d):Pure P w0 M0 o ρ ob d :=
 aJ fun E w ev hw h=>⟨ev (bif z then x else y),w,by cases z<;>simp[execOp,ho,bZ h hc,asBool],.refl _ _,h _ d hx⟩
end
end ops
end
open Go.RowKit
def bX (P:Program)(t:TypeId):Option Nat:=(P.info? t).map (·.size)
def bo (P:Program)(t:TypeId):Option Bool:=(P.underlying t).map fun|.struct _|.array _ _=>true|_=>false
def iT (P:Program)(t:TypeId)(f:Nat):Option (Nat×Nat×Bool) :=
 match P.underlying t with
 | some (.struct fs)=>(fs[f]?).bind fun f=>(bX P f.type).bind fun k=>(bo P f.type).map fun g=>(f.offset,k,g)
 | _=>none
theorem cQ {P:Program}{t:TypeId}{k:Nat}(h:bX P t=some k):P.cellsOf t=k:=by unfold bX at h;unfold Program.cellsOf;rw[h];rfl
theorem dE {P:Program}{t:TypeId}{k:Nat}(h:bX P t=some k)(w:World):(sizeOf t).run P w=.ok k w:=by
 unfold bX at h;cases hi:P.info? t with
 | none=>rw[hi] at h;cases h
 | some i=>rw[hi] at h;simp only[abu,aaB] at h;subst h;simp[sizeOf,typeInfo,hi]
theorem dy {P:Program}{t:TypeId}{b:Bool}(h:bo P t=some b)(w:World):(isAgg t).run P w=.ok b w:=by
 unfold bo at h;cases hi:P.underlying t with
 | none=>rw[hi] at h;cases h
 | some d =>
   rw[hi] at h;simp only[abu,aaB] at h;subst h;simp only[isAgg,Sem.run_bind,run_underlying hi,Result.andThen_ok];cases d<;>rfl
theorem bQ {k:Nat}:∀(xs:List AV),(∀x∈xs,(AV.cells x).length=k)→(flat xs).length=xs.length*k
 | [],_=>by simp[flat]
 | x :: r, h => by
   have ih:=bQ r (fun y hy=>h y (aaW _ hy));have hx:=h x aaJ;simp only[flat,abQ,aaM,aaE] at ih ⊢;rw[ih,hx,acL];omega
theorem flat_get {k:Nat}:∀(xs:List AV)(i:Nat)(el:AV),(∀x∈xs,(AV.cells x).length=k)→xs[i]?=some el→∀j,j<k→(flat xs)[i*k+j]?=(AV.cells el)[j]?
 | [],i,el,_,h,_,_=>by simp at h
 | x :: r, 0, el, hk, h, j, hj => by
   simp only[abf,aaB] at h;subst h;have hx:=hk x aaJ;simp only[flat,abQ,Nat.zero_mul,abL];rw[aa8 adh]
 | x :: r, i + 1, el, hk, h, j, hj => by
   have hx:=hk x aaJ;have ih:=flat_get r i el (fun y hy=>hk y (aaW _ hy)) (by simpa using h) j hj;simp only[flat,abQ] at ih ⊢;rw[aa6 (by rw[hx,acL];omega),hx,←ih]
   congr 1
   rw[acL];omega
variable{xs ds:List AV}{el:AV}{off:Nat}
section
variable {P:Program} {w0:Fr}{M0:Nat→Prop}
theorem kP.rep {w:World}{o:List (Nat×Ob)}{id:Nat}{e:TypeId}(h:kP P w0 M0 w E o id (.arr e xs))
  (hM:∀b,M b→cI M0 (owned E o) .pl b)(hb:∀g,(E.cur id).ownBlock=some g→¬M g):bL w M (E.cur id) (.sl xs):=by
 obtain⟨vals,h1,h2,h3⟩:=h;have hfl:=bQ xs h2;obtain⟨⟨hl,h1'⟩,hfree⟩:=h1;rcases h1' with⟨hv,hn⟩|⟨g,cap,cur,hv,hg,hh,hnc,hcm,hcs,htake⟩
 ·rw[hv];have:xs=[]:=aa4 hn;subst this;exact .sl none 0 0 [] (P.cellsOf e) (fun _=>undef) J (aaD _) h2 (fun h=>absurd h adh) (fun j d hd=>by simp[flat] at hd) (fun j d hd=>by simp[flat] at hd)
 ·rw[hv];have hown:w.ownsRow 0 e (P.cellsOf e) (E.cur id) xs.length vals:=⟨hl,.inr ⟨g,cap,cur,hv,hg,hh,hnc,hcm,hcs,htake⟩⟩;have hob:(E.cur id).ownBlock=some g:=by rw[hv];rfl
  refine .sl _ _ _ _ (P.cellsOf e) (fun j=>vals.getD j undef) J hnc h2 (fun h0=>⟨g,0,rfl,hb g hob,(hown.lt g hob).2,fun j hj=>?_⟩) (fun j d hd=>(h3 j d hd).1) (fun j d hd=>((h3 j d hd).2).cm hM);have hj':j<vals.length:=by rw[hl];exact hj
  have:=hown.cells hob j vals[j] (aaF hj');rw[Addr.add_lit] at this;rw[this,aax,aaF hj'];rfl
def view (ob:List (Nat×Ob)):SV→Option (fX×AV)
 | .v _ (.sc (.slice none 0 0))=>some (.pl,.sl [])
 | .v _ (.sc v)=>some (.pl,.sc v)
 | .v c d=>some (c,d)
 | .own id => match ob.lookup id with
   | some (.arr _ xs)=>some (.vw,.sl xs)
   | _=>none
 | .omap id => match ob.lookup id with
   | some (.mp ks vs)=>some (.vw,.mp ks vs)
   | _=>none
 | _=>none
theorem H3 {w:World}{ob:List (Nat×Ob)}{s:SV}{c:fX}{d:AV}(hw:gu P w0 M0 E ob w)(h:bm P M0 w E ob v s)(hv:view ob s=some (c,d)) :
  bL w (cI M0 (owned E ob) c) v d:=by
 unfold view at hv;split at hv
 ·simp only[aaB,abP] at hv;obtain⟨rfl,rfl⟩:=hv;cases h;exact .sl none 0 0 [] 0 (fun _=>undef) J (aaD _) (by simp) (fun h=>absurd h adh) (fun j d hd=>by simp[flat] at hd) (fun j d hd=>by simp[flat] at hd)
 ·simp only[aaB,abP] at hv;obtain⟨rfl,rfl⟩:=hv;cases h;exact .sc _ ‹_›
 ·simp only[aaB,abP] at hv;obtain⟨rfl,rfl⟩:=hv;exact h
 ·rename_i id;split at hv
  ·rename_i e xs hl;simp only[aaB,abP] at hv;obtain⟨rfl,rfl⟩:=hv;rw[h e xs hl];exact(hw.objs id _ hl).rep (fun b hb=>hb.elim) (fun g _ hf=>hf.elim)
  ·cases hv
 ·rename_i id;split at hv
  ·rename_i ks vs hl;simp only[aaB,abP] at hv;obtain⟨rfl,rfl⟩:=hv;rw[h ks vs hl];have hlt:=((hw.objs id _ hl).dG rfl).2;obtain⟨es,clock,h1,h2,h3,h4,h5⟩:=hw.objs id _ hl;exact .mp _ es clock ks vs (fun h=>h) hlt h1 h3 h4 fun j d hd=>(h5 j d hd).cm fun b hb=>hb.elim
  ·cases hv
 ·cases hv
section ops
variable {o:Oper} {ρ:Operand→Option SV}{ob:List (Nat×Ob)}{d:SV}{x y:Operand}{T T':TypeId}{e:TypeId}{k:Nat}{c:fX}
def viewAt (ρ:Operand→Option SV)(ob:List (Nat×Ob))(x:Operand):Option (fX×AV):=(ρ x).bind (view ob)
theorem cG {w:World}{ev:Operand→Value}(hw:gu P w0 M0 E ob w)(h:∀x e,ρ x=some e→bm P M0 w E ob (ev x) e){c:fX}{d:AV}(hx:viewAt ρ ob x=some (c,d)) :
  bL w (cI M0 (owned E ob) c) (ev x) d:=by
 unfold viewAt at hx;cases hr:ρ x with
 | none=>rw[hr] at hx;cases hx
 | some s=>rw[hr] at hx;exact H3 hw (h x s hr) hx
theorem Dx (ho:o.op=.call { callee:=.builtin .len,args:=#[x],argTypes:=#[T] })(hT:P.underlying T=some (.slice e))(hx:viewAt ρ ob x=some (c,.sl xs)) :
   Pure P w0 M0 o ρ ob (.v .pl (.sc (.int .i64 xs.length))) :=
 aJ fun E w ev hw h=>by
   have hr:=cG hw h hx;generalize hq:ev x=q at hr;cases hr with
   | sl a n cap _ k cv hn hc hk hb hl hr =>
     refine⟨.int .i64 xs.length,w,?_,.refl _ _,R0 J⟩;subst hn;simp[execOp,ho,resolve,hq,invoke,builtin,Builtin.len_,run_underlying hT,goInt]
theorem Gg {q:IntKind}{i:Int}(ho:o.op=.indexAddr T x y)(hT:P.underlying T=some (.slice e))(hk:bX P e=some k)
   (hx:viewAt ρ ob x=some (c,.sl xs))(hy:bg ρ y=some (.int q i))(h0:0≤i)(he:xs[i.toNat]?=some el)(hc:(AV.cells el).length=k) :
   Pure P w0 M0 o ρ ob (.v c (.pc (AV.cells el) 0)) :=
 aJ fun E w ev hw h=>by
   have hr:=cG hw h hx;have hi:=bZ h hy;generalize hq:ev x=qx at hr;cases hr with
   | sl a n cap _ k' cv hn hnc hk' hb hl hr =>
     have hlt:i.toNat<xs.length:=(aa0.1 he).1;have hkk:k'=k:=by rw[←hc];exact(hk' el (abm he)).symm
     subst hkk;obtain⟨b,of,rfl,hM,hbs,hcells⟩:=hb adh;have hmul:i.toNat*k'+k'≤n*k':=by rw[←acY];exact abR _ adh
     refine⟨.pointer (some ⟨b,of+i.toNat*k'+0,none⟩),w,?_,.refl _ _,?_⟩
     · have hin : 0 ≤ i ∧ i < (n : Int) := adh
       have hel:P.elem T=e:=by simp[Program.elem,hT]
       simp[execOp,ho,hq,hi,run_indexAt_slice,hel,hT,hin,dE hk,Addr.add_lit]
     · have hg := flat_get xs i.toNat el hk' he
       refine .pc b _ 0 _ (fun j=>cv (i.toNat*k'+j)) hM hbs (fun j hj=>?_) (fun j d hd=>?_) (fun j d hd=>?_)
       · have := hcells (i.toNat * k' + j) adh
         rw[←this];congr 2;omega
       · have hj : j < k' := by rw [← hc]; exact (aa0.1 hd).1
         exact hl (i.toNat*k'+j) d (by rw[hg j hj];exact hd)
       · have hj : j < k' := by rw [← hc]; exact (aa0.1 hd).1
         exact hr (i.toNat*k'+j) d (by rw[hg j hj];exact hd)
theorem Ab {cs:List AV}(ho:o.op=.load T x)(hT:bo P T=some false)(hx:ρ x=some (.v c (.pc cs off)))(he:cs[off]?=some el) :
   Pure P w0 M0 o ρ ob (.v c el) :=
 aJ fun E w ev hw h=>by
   have hr:=h x _ hx;simp only[bm] at hr;generalize hq:ev x=qx at hr;cases hr with
   | pc b of _ _ cv hM hb hc hl hr =>
     refine⟨cv off,w,?_,.refl _ _,hr off el he⟩;have:=hc off (aa0.1 he).1;simp[execOp,ho,hq,Instr.loadAt,Instr.sureAddr,loadVar,dy hT,this]
theorem aF {cs:List AV}(ho:o.op=.load T x)(hT:bo P T=some true)(hk:bX P T=some k)(hx:ρ x=some (.v c (.pc cs off)))(he:off+k≤cs.length) :
   Pure P w0 M0 o ρ ob (.v c (.agg ((cs.drop off).take k))) :=
 aJ fun E w ev hw h=>by
   have hr:=h x _ hx;simp only[bm] at hr;generalize hq:ev x=qx at hr;cases hr with
   | pc b of _ _ cv hM hb hc hl hr =>
     have hget:∀(j:Nat) d,((cs.drop off).take k)[j]?=some d→j<k∧cs[off+j]?=some d:=fun j d hd=>by
       rw[abo] at hd;split at hd
       · exact⟨‹_›,by rw[←hd,ab3]⟩
       · cases hd
     refine⟨.agg ((List.range k).map fun j=>cv (off+j)).toArray,w,?_,.refl _ _,?_⟩
     · have hl := run_loadCells (P := P) w ⟨b, of + off, none⟩ k (fun j => cv (off + j)) (fun j hj => by
         rw[Addr.add_lit,←hc (off+j) adh];congr 2;omega)
       simp[execOp,ho,hq,Instr.loadAt,Instr.sureAddr,loadVar,dy hT,dE hk,hl]
       try (apply Array.ext<;>simp)
     · refine .agg _ _ (by simp; omega) (fun j d hd => ?_) (fun j d hd => ?_)
       · exact hl _ d (hget j d hd).2
       · have := hget j d hd
         rw[aax,aaI,abX this.1];exact hr _ d this.2
theorem Gh {cs:List AV}{f fo fk:Nat}{fg:Bool}(ho:o.op=.fieldAddr T x f)(hT:iT P T f=some (fo,fk+1,fg))(hx:ρ x=some (.v c (.pc cs off))) :
   Pure P w0 M0 o ρ ob (.v c (.pc cs (off+fo))):=by
 unfold iT at hT;split at hT
 · rename_i fs hs
   cases hf:fs[f]? with
   | none=>rw[hf] at hT;cases hT
   | some fd =>
     rw[hf] at hT;simp only[ach,abE,aaH,abP] at hT;obtain⟨k1,hk1,g1,hg1,Vn,Yg,_⟩:=hT;subst Yg;refine aJ fun E w ev hw h=>?_
     have hr:=h x _ hx;simp only[bm] at hr;generalize hq:ev x=qx at hr;cases hr with
     | pc b of _ _ cv hM hb hc hl hr =>
       refine⟨.pointer (some ⟨b,of+(off+fo),none⟩),w,?_,.refl _ _,.pc b of (off+fo) cs cv hM hb hc hl hr⟩;simp[execOp,ho,hq,Instr.fieldAt,run_underlying hs,hf,Instr.sureAddr,fieldPlace,dE hk1,Addr.add_lit,Vn,Nat.add_assoc]
 · cases hT
theorem BO {vs:List AV}{i:Nat}(ho:o.op=.extract x i)(hx:ρ x=some (.v c (.tup vs)))(he:vs[i]?=some el):Pure P w0 M0 o ρ ob (.v c el) :=
 aJ fun E w ev hw h=>by
   have hr:=h x _ hx;simp only[bm] at hr;generalize hq:ev x=qx at hr;cases hr with
   | tup us _ hn hr =>
     have hlt:i<us.length:=by rw[hn];exact(aa0.1 he).1
     have:=hr i el he;rw[aax,aaF hlt] at this;exact⟨us[i],w,by simp[execOp,ho,hq,Instr.extract,hlt],.refl _ _,this⟩
end ops
inductive RV where
 | p (d:AV)
 | fresh (e:TypeId)(xs:List AV)
def iN (P:Program)(w':World)(M:Nat→Prop)(K:Nat→Prop)(v:Value):RV→Prop
 | .p d=>bL w' M v d
 | .fresh e xs=>∃vals,(w'.ownsRow 0 e (P.cellsOf e) v xs.length vals∧∀b,v.ownBlock=some b→¬K b)∧(∀x∈xs,(AV.cells x).length=P.cellsOf e) ∧
  ∀(j:Nat) d,(flat xs)[j]?=some d→AV.leaf d=true∧bL w' (fun b=>M b∨v.ownBlock=some b) (vals.getD j undef) d
def RV.data:RV→AV
 | .p d=>d
 | .fresh _ xs=>.sl xs
def cq (P : Program) (f : FuncId) : Prop := ∃ fn, P.funcs[f]? = some fn ∧ (fn.name == "runtime.NumGoroutine") = false ∧ fn.body.isNone = false
def au (P:Program)(f:FuncId)(ds:List AV)(r:RV):Prop :=
 cq P f∧∀(w:World)(vs:List Value),vs.length=ds.length→(∀(j:Nat) d,ds[j]?=some d→bL w (fun _=>False) (vs.getD j undef) d) →
   Calls P f vs.toArray w fun e w'=>∃v,e=.returned v∧Below w.heap.size w w'∧iN P w' (fun b=>b<w.heap.size) (fun b=>b<w.heap.size) v r
def aV (P:Program)(f:FuncId)(ds:List AV)(r:RV):Prop :=
 cq P f∧∀(w:World)(M:Nat→Prop)(vs:List Value),(∀b,M b→b<w.heap.size)→vs.length=ds.length→(∀(j:Nat) d,ds[j]?=some d→bL w M (vs.getD j undef) d) →
   Calls P f vs.toArray w fun e w'=>∃v,e=.returned v∧Below w.heap.size w w'∧iN P w' M (fun b=>b<w.heap.size) v r
theorem iN.rep {K:Nat→Prop}{r:RV}(h:iN P w' M K v r)(hM:∀b,M b→K b):bL w' M v r.data:=by
 cases r with
 | p d=>exact h
 | fresh e xs =>
   obtain⟨vals,h1,h2,h3⟩:=h;obtain⟨⟨hl,h1'⟩,hfree⟩:=h1;rcases h1' with⟨hv,hn⟩|⟨g,cap,cur,hv,hg,hh,hnc,hcm,hcs,htake⟩
   · subst hv
     have:xs=[]:=aa4 hn;subst this;exact .sl none 0 0 [] (P.cellsOf e) (fun _=>undef) J (aaD _) h2 (fun h=>absurd h adh) (fun j d hd=>by simp[flat] at hd) (fun j d hd=>by simp[flat] at hd)
   · have hown : w'.ownsRow 0 e (P.cellsOf e) v xs.length vals := ⟨hl, .inr ⟨g, cap, cur, hv, hg, hh, hnc, hcm, hcs, htake⟩⟩
     subst hv;have hob:(Value.slice (some ⟨g,0,none⟩) xs.length cap).ownBlock=some g:=rfl;refine .sl _ _ _ _ (P.cellsOf e) (fun j=>vals.getD j undef) J hnc h2 (fun h0=>⟨g,0,rfl,fun hm=>hfree g hob (hM g hm),(hown.lt g hob).2,fun j hj=>?_⟩) (fun j d hd=>(h3 j d hd).1) (fun j d hd=>((h3 j d hd).2).cm (fun b hb=>.inl hb));have hj':j<vals.length:=by rw[hl];exact hj
     have:=hown.cells hob j vals[j] (aaF hj');rw[Addr.add_lit] at this;rw[this,aax,aaF hj'];rfl
def jl (ρ:Operand→Option SV)(ob:List (Nat×Ob)):List Operand→Option (List AV)
 | []=>some []
 | x :: r => match viewAt ρ ob x, jl ρ ob r with
   | some (_,d),some ds=>some (d :: ds)
   | _,_=>none
theorem l5 {ρ:Operand→Option SV}{ob:List (Nat×Ob)}{E:Env}{w:World}{ev:Operand→Value}(hw:gu P w0 M0 E ob w)(h:∀x e,ρ x=some e→bm P M0 w E ob (ev x) e) :
   ∀(xs:List Operand)(ds:List AV),jl ρ ob xs=some ds→xs.length=ds.length∧∀(j:Nat) d,ds[j]?=some d→bL w (fun _=>False) ((xs.map ev).getD j undef) d
 | [], ds, hd => by
   simp only[jl,aaB] at hd;subst hd;exact⟨rfl,fun j d hd=>by simp at hd⟩
 | x :: r, ds, hd => by
   unfold jl at hd;split at hd
   · rename_i c d0 ds0 h1 h2
     simp only[aaB] at hd;subst hd;have ih:=l5 hw h r ds0 h2;refine⟨by simp[ih.1],fun j d hd=>?_⟩;cases j with
     | zero =>
       simp only[abf,aaB] at hd;subst hd;exact(cG hw h h1).cm (fun b hb=>hb.elim)
     | succ j=>exact ih.2 j d (by simpa using hd)
   · cases hd
theorem fG {o:Oper}{cx:Operand}{args:Array Operand}{ats:Array TypeId}{f:FuncId}{caps:Array Value}{ev:Operand→Value}{w:World}(ho:o.op=.call { callee:=.value cx,args:=args,argTypes:=ats })
  (hc:ev cx=.func (.func f) #[] caps)(hf:cq P f):(execOp ev o).run P w=.ok (.enter f (args.map ev++caps)) w:=by
 obtain⟨fn,h1,h2,h3⟩:=hf;have h3':fn.body≠none:=by intro hn;rw[hn] at h3;cases h3
 have h2' : ¬ fn.name = "runtime.NumGoroutine" := by simpa using h2
 simp[execOp,ho,resolve,hc,Deferred.ofValue,invoke,callFunc,h1,h2',h3']
theorem cg {o:Oper}{ρ:Operand→Option SV}{ob:List (Nat×Ob)}{cx:Operand}{args:Array Operand}{ats:Array TypeId}{c:fX}{f:FuncId}{caps:List AV}{r:RV}
   (ho:o.op=.call { callee:=.value cx,args:=args,argTypes:=ats })(hc:ρ cx=some (.v c (.clo f caps)))(ha:jl ρ ob args.toList=some ds)(h:au P f (ds++caps) r)
   (ae:∀b,M0 b→b<w0.w.heap.size):Pure P w0 M0 o ρ ob (.v .pl r.data):=by
 intro E w ev hw hx;have hcv:=hx cx _ hc;simp only[bm] at hcv;generalize hq:ev cx=q at hcv;cases hcv with
 | clo _ vs _ hn hr =>
   have hv:=l5 hw hx _ _ ha;unfold sM;rw[fG ho hq h.1];refine⟨rfl,?_⟩;have hall:=h.2 w (args.toList.map ev++vs) (by simp[hv.1,hn]) (fun j d hd=>?_)
   · have e1 : (args.toList.map ev ++ vs).toArray = args.map ev ++ vs.toArray := by apply acw ; simp
     rw[e1] at hall;refine hall.mono fun e w' ⟨v,he,hb,hrv⟩=>⟨v,he,hb.to,?_⟩
     have hrep:=hrv.rep (fun b hb=>hb);refine hrep.cm fun b hb'=>?_
     rcases hb' with hb'|hb'
     · have:=ae b hb';have:=hw.below.size;omega
     · exact(hw.bH hb').2
   · rw [aax]
     rcases aa9 j ds.length with hlt|hge
     · rw [aa8 hlt] at hd
       have:=hv.2 j d hd;rw[aa8 (by simp[hv.1];omega)];rwa [aax] at this
     · rw [aa6 hge] at hd
       have:=hr _ d hd;rw[aa6 (by simp[hv.1];omega)];simp only[aaA,hv.1];rw[aax] at this;exact this.cm (fun b hb=>hb.elim)
end
variable{args:Array Value}
section
variable {P:Program} {Q:Exit→Act→World→Prop}{a:Act}{w:World}{l:Nat}{o:Oper}{K:Act→World→Prop}
theorem Calls.LN {f:FuncId}{R:Ending→World→Prop}(h:Calls P f args w R):∃e w',R e w':=let⟨e,w',_,r,_⟩:=h [];⟨e,w',r⟩
theorem Rows.LN {r:String}{R:Value→World→Prop}(h:Rows P r args w R):∃v w',R v w':=let⟨v,w',r,_⟩:=h default [];⟨v,w',r⟩
theorem put_defers (a:Act)(d:Option Tmp)(v:Value):(a.put d v).defers=a.defers:=by cases d<;>rfl
structure Calm (Q:Exit→Act→World→Prop):Prop where
 only:∀e a w,Q e a w→e=.normal
 none:∀e a w,Q e a w→a.defers=[]
theorem Calm.out (hQ:Calm Q)(h:LetsOut Q):False:=let⟨_,_,h⟩:=h;nomatch hQ.only _ _ _ h
theorem Calm.panic (hQ:Calm Q) {ch}(h:Q (.panic ch) a w):False:=nomatch hQ.only _ _ _ h
theorem vo (hQ:Calm Q)(hK:∀a w,K a w→a.defers=[]){r:Result Next}(h:o.upon P a K Q r):a.defers=[]:=by
 cases r with
 | ok x w' =>
   cases x with
   | value v=>exact(put_defers _ _ _).symm.trans (hK _ _ h)
   | skip=>exact(put_defers _ _ _).symm.trans (hK _ _ h)
   | defer d=>exact absurd ((put_defers _ _ _).symm.trans (hK _ _ h)) (by simp)
   | enter f args =>
     obtain⟨e,w'',h⟩:=Calls.LN (show Calls P f args w' _ from h);cases e with
     | returned v=>exact(put_defers _ _ _).symm.trans (hK _ _ h)
     | panicked ch=>exact(hQ.panic h).elim
     | outgrown=>exact(hQ.out h).elim
   | row r args =>
     obtain⟨v,w'',h⟩:=Rows.LN (show Rows P r args w' _ from h);exact(put_defers _ _ _).symm.trans (hK _ _ h)
   | _=>exact(show False from h).elim
 | halt x w' =>
   cases x with
   | panic v=>exact(hQ.panic h).elim
   | _=>exact(show False from h).elim
theorem Dy {f:FuncId}{R:Ending→World→Prop}(h:Calls P f args w R):CallsIn (Fence.wide.inRound l) 0 P f args w R:=CallsIn.inRound l (callsIn_wide.2 h)
theorem Gi {r:String}{R:Value→World→Prop}(h:Rows P r args w R):RowsIn (Fence.wide.inRound l) 0 P r args w R:=fun c cs _=>let⟨v,w',r,s⟩:=h c cs;⟨v,w',r,stepsIn_wide.2 s⟩
theorem Gj (hQ:Calm Q)(hK:∀a w,K a w→a.defers=[])(h:o.wp P a w K Q):o.wpIn (Fence.wide.inRound l) 0 P a w K Q:=by
 refine⟨fun _ _=>trivial,?_⟩;have hnd:∀c,o.op≠.defer c:=fun c hc=>by
   unfold Oper.wp execOp at h;rw[hc] at h;have h':o.upon P a K Q (((resolve a.eval c o.type) >>= fun d=>pure (Next.defer d):Sem Next).run P w):=h;rw[Sem.run_bind] at h';cases hr:(resolve a.eval c o.type).run P w with
   | ok d w' =>
     rw[hr] at h';have h2:K ({ a with defers:=d :: a.defers }.put o.dst undef) w':=h';exact absurd ((put_defers _ _ _).symm.trans (hK _ _ h2)) (by simp)
   | halt x w' =>
     rw[hr] at h';cases x with
     | panic v=>exact hQ.panic (show Q (.panic _) a w' from h')
     | _=>exact(show False from h')
 rw[Oper.semAt_eq _ _ _ hnd];unfold Oper.wp at h;generalize (execOp a.eval o).run P w=r at *;cases r with
 | ok x w' =>
   cases x with
   | enter f args=>exact⟨fun hd=>by simp[Fence.wide] at hd,Dy h⟩
   | row r args=>exact⟨fun hd=>by simp[Fence.wide] at hd,Gi h⟩
   | value v=>exact h
   | skip=>exact h
   | defer d=>exact h
   | _=>exact(show False from h).elim
 | halt x w' =>
   cases x with
   | panic v=>exact h
   | _=>exact(show False from h).elim
theorem lE {ops:Array Oper}(hQ:Calm Q):∀(r:List Nat)(a:Act)(w:World),wpOps P ops Q r a w→a.defers=[]
 | [],a,w,h=>hQ.none _ _ _ h
 | i :: r, a, w, h => by
   unfold wpOps at h;split at h
   · exact lE hQ r a w h
   · split at h
     · rcases h with h | ⟨_, h⟩
       · exact vo hQ (fun a w=>lE hQ r a w) h
       · exact(hQ.out h).elim
     · exact(put_defers _ _ _).symm.trans (lE hQ r _ w h)
theorem Dz {ops:Array Oper}(hQ:Calm Q)(hK:∀a w,K a w→a.defers=[]){i:Nat}(h:wpOp P ops Q i K a w):a.defers=[]:=by
 unfold wpOp at h;split at h
 ·exact hK _ _ h
 ·split at h
  ·rcases h with h|⟨_,h⟩
   ·exact vo hQ hK h
   ·exact(hQ.out h).elim
  ·exact(put_defers _ _ _).symm.trans (hK _ _ h)
theorem xl {ops:Array Oper}(hQ:Calm Q)(hK:∀a w,K a w→a.defers=[]){i:Nat}(h:wpOp P ops Q i K a w):wpOpIn (Fence.wide.inRound l) 0 P ops Q i K a w:=by
 unfold wpOp at h;unfold wpOpIn;cases ho:ops[i]? with
 | none=>rw[ho] at h;exact h
 | some o =>
   rw[ho] at h;dsimp only at h ⊢;by_cases hw:Region.wanted o (yielded ops a.tmps)=true
   · rw [if_pos hw] at h ⊢
     rcases h with h|⟨_,h⟩
     · exact Gj hQ hK h
     · exact(hQ.out h).elim
   · rw [if_neg hw] at h ⊢
     exact⟨fun _ _=>trivial,h⟩
theorem Ac {ops:Array Oper}(hQ:Calm Q):∀(r:List Nat)(a:Act)(w:World),wpOps P ops Q r a w→wpOpsIn (Fence.wide.inRound l) 0 P ops Q r a w
 | [],a,w,h=>h
 | i :: r, a, w, h => by
   rw[wpOps_cons] at h;rw[wpOpsIn_cons];exact wpOpIn_mono (fun a w=>Ac hQ r a w) (xl hQ (fun a w=>lE hQ r a w) h)
theorem sN {ops:Array Oper}{md:Region.Mode}(hQ:Calm Q):∀(n:Nat)(L:Array Bool)(a:Act)(w:World),wpAny P md ops Q n L a w→a.defers=[]
 | 0,L,a,w,h=>hQ.none _ _ _ h.2
 | n + 1, L, a, w, h => by
   cases hr:Region.ready md ops L with
   | nil=>exact hQ.none _ _ _ (h.1 hr)
   | cons i r=>exact Dz hQ (fun a w=>sN hQ n _ a w) (h.2 i (by rw[hr];exact aaJ))
theorem Ad {ops:Array Oper}{md:Region.Mode}(hQ:Calm Q):∀(n:Nat)(L:Array Bool)(a:Act)(w:World),wpAny P md ops Q n L a w→wpAnyIn (Fence.wide.inRound l) 0 P md ops Q n L a w
 | 0,L,a,w,h=>h
 | n+1,L,a,w,h=>⟨h.1,fun i hi=>wpOpIn_mono (fun a w=>Ad hQ n _ a w) (xl hQ (fun a w=>sN hQ n _ a w) (h.2 i hi))⟩
def v8 (P:Program):Md→Code→(Exit→Act→World→Prop)→Act→World→Prop
 | .round l,c,Q,a,w=>c.wpIn (Fence.wide.inRound l) 0 P Q a w
 | .plain,c,Q,a,w=>c.wp P Q a w
 | .marks,c,Q,a,w=>c.wp P Q a w
variable {r:Md} {c x y:Code}{Q':Exit→Act→World→Prop}
theorem iU (h:v8 P r c Q a w)(hq:∀e a w,Q e a w→Q' e a w):v8 P r c Q' a w:=by
 cases r with
 | plain=>exact wp_mono h hq
 | marks=>exact wp_mono h hq
 | round l=>exact wpIn_mono h hq
theorem LO (h:Q .normal a w):v8 P r .skip Q a w:=by
 cases r with
 | plain=>exact wp_skip h
 | marks=>exact wp_skip h
 | round l=>exact wpIn_skip h
theorem JB {i:Nat}(h:Q .normal a w):v8 P r (.label i) Q a w:=by
 cases r with
 | plain=>exact wp_label h
 | marks=>exact wp_label h
 | round l=>exact wpIn_label h
theorem PX (h:Q .ret a w):v8 P r .ret Q a w:=by
 cases r with
 | plain=>exact wp_ret h
 | marks=>exact wp_ret h
 | round l=>exact wpIn_ret h
theorem LP {i:Nat}(h:Q (.exit i) a w):v8 P r (.exit i) Q a w:=by
 cases r with
 | plain=>exact wp_exit h
 | marks=>exact wp_exit h
 | round l=>exact wpIn_exit h
theorem PY (h:v8 P r x (Exit.then (v8 P r y Q) Q) a w):v8 P r (.seq x y) Q a w:=by
 cases r with
 | plain=>exact wp_seq h
 | marks=>exact wp_seq h
 | round l=>exact wpIn_seq h
theorem JC {i:Nat}(h:v8 P r c (Exit.inBlock i Q) a w):v8 P r (.block i c) Q a w:=by
 cases r with
 | plain=>exact wp_block h
 | marks=>exact wp_block h
 | round l=>exact wpIn_block h
theorem zx {q:Operand}(hc:a.eval q=.bool true)(h:v8 P r x Q a w):v8 P r (.cond q x y) Q a w:=by
 cases r with
 | plain=>exact wp_cond_true hc h
 | marks=>exact wp_cond_true hc h
 | round l=>exact wpIn_cond_true hc h
theorem xm {q:Operand}(hc:a.eval q=.bool false)(h:v8 P r y Q a w):v8 P r (.cond q x y) Q a w:=by
 cases r with
 | plain=>exact wp_cond_false hc h
 | marks=>exact wp_cond_false hc h
 | round l=>exact wpIn_cond_false hc h
theorem Gk {i:Nat}{ops:Array Oper}(hQ:∀l,r=.round l→Calm Q)(h:wpOps P ops Q (List.range ops.size) a w):v8 P r (.region i ops false) Q a w:=by
 cases r with
 | plain=>exact wp_region h
 | marks=>exact wp_region h
 | round l=>exact wpIn_region (Ac (hQ l rfl) _ _ _ h)
theorem l6 {i:Nat}{ops:Array Oper}(hm:P.follows .mixedOrders=true)(hQ:∀l,r=.round l→Calm Q)(h:wpAny P .any ops Q ops.size (Array.replicate ops.size false) a { w with drawn:=w.drawn+1 }):v8 P r (.region i ops true) Q a w:=by
 cases r with
 | plain=>exact wp_region_any hm h
 | marks=>exact wp_region_any hm h
 | round l=>exact wpIn_region_any hm (Ad (hQ l rfl) _ _ _ _ h)
def ot (P:Program)(r:Md)(c:Code)(Q:Exit→Act→World→Prop):Nat→Act→World→Prop
 | 0,_,_=>False
 | m+1,a,w=>v8 P r c (Exit.then (ot P r c Q m) Q) a w
theorem BP {m:Nat}:ot P r c Q (m+1) a w=v8 P r c (Exit.then (ot P r c Q m) Q) a w:=rfl
theorem wa (m:Nat)(h:ot P r c Q m a w):v8 P r (.loop c) Q a w:=by
 have calm:(∀c Q a w,v8 P r c Q a w↔c.wp P Q a w)→v8 P r (.loop c) Q a w:=fun hr=>by
   refine(hr _ _ _ _).2 (wp_loop_rounds m ?_);have:∀m a w,ot P r c Q m a w→Code.rounds P c Q m a w:=fun m=>by
     induction m with
     | zero=>exact fun a w h=>h
     | succ m ih=>exact fun a w h=>wp_mono ((hr _ _ _ _).1 h) fun e a w h=>by cases e<;>first|exact ih _ _ h|exact h
   exact this m a w h
 cases r with
 | plain=>exact calm fun _ _ _ _=>Iff.rfl
 | marks=>exact calm fun _ _ _ _=>Iff.rfl
 | round l =>
   refine wpIn_loop_rounds m ?_;have:∀m a w,ot P (.round l) c Q m a w→Code.roundsIn (Fence.wide.inRound l) 0 P c Q m a w:=fun m=>by
     induction m with
     | zero=>exact fun a w h=>h
     | succ m ih=>exact fun a w h=>wpIn_mono (show c.wpIn _ _ P _ a w from h) fun e a w h=>by cases e<;>first|exact ih _ _ h|exact h
   exact this m a w h
theorem kR {b:Frame}{k:List Item}{cs:List Frame}:step P (lone (b.atR a (.code (.scope c) :: k)) cs w)=.next (lone (b.atR a (.code c :: .inScope c :: k)) cs w) :=
 step_lone_go (by simp[stepG,stepG.exec,Frame.atR])
theorem zy {b:Frame}{k:List Item}{cs:List Frame}:step P (lone (b.atR a (.inScope c :: k)) cs w)=.next (lone (b.atR a k) cs w) :=
 step_lone_go (by simp[stepG,stepG.exec,Frame.atR])
theorem re {F:Fence}(h:c.wpIn F n P (Exit.noGoto Q) a w):(Code.scope c).wpIn F n P Q a w:=by
 intro b k cs hro hb hr;have h0:(lone (b.atR a (.code (.scope c) :: k)) cs w).fenced P F:=fenced_calm hb hr rfl;obtain⟨e,a₁,w₁,hq,harr⟩:=h b (.inScope c :: k) cs hro hb hr;cases e with
 | normal=>exact⟨.normal,a₁,w₁,hq,.head h0 kR (StepsIn.trans harr (.one (fenced_calm hb hr rfl) zy))⟩
 | exit id=>exact⟨.exit id,a₁,w₁,hq,.of_steps (.one h0 kR) (show ArrivesIn _ P _ b k cs (.exit id) a₁ w₁ from⟨fun k' hk=>harr.1 k' (by simp[exitTo,hk]),fun hr hk=>harr.2 hr (by simp[exitTo,hk])⟩)⟩
 | goto l=>exact hq.elim
 | ret=>exact⟨.ret,a₁,w₁,hq,.of_steps (.one h0 kR) (show ArrivesIn _ P _ b k cs .ret a₁ w₁ from harr)⟩
 | panic ch=>exact⟨.panic ch,a₁,w₁,hq,.of_steps (.one h0 kR) (show ArrivesIn _ P _ b k cs (.panic ch) a₁ w₁ from harr)⟩
 | outgrown=>exact⟨.outgrown,a₁,w₁,hq,.of_steps (.one h0 kR) (show ArrivesIn _ P _ b k cs .outgrown a₁ w₁ from harr)⟩
theorem rS (h:v8 P r c (Exit.noGoto Q) a w):v8 P r (.scope c) Q a w:=by
 cases r with
 | plain=>exact wp_scope_straight h
 | marks=>exact wp_scope_straight h
 | round l=>exact re h
end
open Go.RowKit
section
variable {P:Program} {w0:Fr}{M0:Nat→Prop}
def guardOf (ops:Array Oper)(ρ:Operand→Option SV)(o:Oper):Option Bool :=
 match o.guard with
 | none=>some true
 | some (j, want) => match (ops[j]?).bind (·.dst) with
   | none=>none
   | some t => match ρ (.tmp t) with
     | some (.v _ (.sc (.bool b)))=>some (b == want)
     | some (.v _ (.tup []))=>some false
     | _=>none
theorem ba.LQ {s:St}{a:Act}{w:World}(h:ba P w0 M0 E s a w){t:Nat}{d:SV}(ht:s.s.lookup t=some d):a.tmps[t]?=some (a.tmps.getD t undef):=by have h1:=(h.slots t d ht).1;have h2:=h.size;rw[abc,abd adh];rfl
theorem xn {ops:Array Oper}{s:St}{a:Act}{w:World}(h:ba P w0 M0 E s a w){o:Oper}{g:Bool}(hg:guardOf ops s.ev o=some g) :
   Region.wanted o (yielded ops a.tmps)=g:=by
 unfold guardOf at hg;unfold Region.wanted;split at hg
 · rename_i h0
   simp only[aaB] at hg;simp[h0,hg]
 · rename_i j want h0
   simp only[h0];split at hg
   · cases hg
   · rename_i t ht
     split at hg
     · rename_i c b hb
       simp only[aaB] at hg;subst hg;have h1:=(h.slots t _ hb).2;simp only[bm] at h1;have h2:=h.LQ hb;have h3:a.tmps.getD t undef=.bool b:=by generalize a.tmps.getD t undef=z at h1;cases h1;rfl
       rw[h3] at h2;simp only[yielded,ht,ach,h2];cases b<;>cases want<;>rfl
     · rename_i c hb
       simp only[aaB] at hg;subst hg;have h1:=(h.slots t _ hb).2;simp only[bm] at h1;have h2:=h.LQ hb;have h3:∃vs,a.tmps.getD t undef=.tuple vs:=by
         generalize a.tmps.getD t undef=z at h1;cases h1;exact⟨_,rfl⟩
       obtain⟨vs,h3⟩:=h3;rw[h3] at h2;simp only[yielded,ht,ach,h2];cases want<;>rfl
     · cases hg
def fm (P:Program)(w0:Fr)(M0:Nat→Prop)(s s':St):Prop:=∀a w,pv P w0 M0 s a w→pv P w0 M0 s' a w
theorem fm.refl (s:St):fm P w0 M0 s s:=fun _ _ h=>h
theorem fm.trans {s s' s'':St}(h:fm P w0 M0 s s')(h':fm P w0 M0 s' s''):fm P w0 M0 s s'':=fun a w hs=>h' a w (h a w hs)
def vp (P:Program)(w0:Fr)(M0:Nat→Prop)(ops:Array Oper)(l:List Nat)(s:St)(Q:St→Prop):Prop :=
 ∀a w,pv P w0 M0 s a w→wpOps P ops (fun e a' w'=>e=.normal∧∃s',Q s'∧pv P w0 M0 s' a' w') l a w
def aw (P:Program)(w0:Fr)(M0:Nat→Prop)(c:Code)(s:St)(Q:Exit→St→Prop):Prop :=
 ∀a w,pv P w0 M0 s a w→v8 P w0.md c (fun e a' w'=>∃s',Q e s'∧pv P w0 M0 s' a' w') a w
theorem sO {Q:St→Prop}:∀l,w0.md=.round l→Calm (fun e a' w'=>e=.normal∧∃s',Q s'∧pv P w0 M0 s' a' w'):=fun l hl=>⟨fun e a w h=>h.1,fun e a w ⟨_,s',_,E,hs⟩=>by have h:=hs.defers;unfold Marks at h;rw[hl] at h;exact h⟩
section ops
variable {ops:Array Oper}{l:List Nat}{s s':St}{Q:St→Prop}{i:Nat}{o:Oper}
theorem H4 (h:Q s):vp P w0 M0 ops [] s Q:=fun a w hs=>⟨rfl,s,h,hs⟩
theorem DA (hi:ops[i]?=some o)(hg:guardOf ops s.ev o=some true)(h:Step P w0 M0 o s s')(hr:vp P w0 M0 ops l s' Q):vp P w0 M0 ops (i :: l) s Q:=by intro a w hs;obtain⟨E,hE⟩:=hs;simp only[wpOps,hi,xn hE hg,if_true];exact .inl (Oper.wp_mono (fun a' w' h'=>hr a' w' h') (h a w _ ⟨E,hE⟩))
theorem DB {w:World}{ob:List (Nat×Ob)}:bm P M0 w E ob undef (.v .pl (.tup [])):=.tup [] [] rfl (fun j d hd=>by simp at hd)
theorem DC {t:Nat}(hi:ops[i]?=some o)(hg:guardOf ops s.ev o=some false)(ht:o.dst=some t)(hn:t<s.n)(hr:vp P w0 M0 ops l (s.put t (.v .pl (.tup []))) Q) :
  vp P w0 M0 ops (i :: l) s Q:=by
 intro a w hs;obtain⟨E,hE⟩:=hs;simp only[wpOps,hi,xn hE hg,acJ,if_false,ht];exact hr _ _ ⟨E,hE.put hn DB⟩
end ops
section code
variable {c x y:Code}{s s':St}{Q:Exit→St→Prop}
theorem aw.imp (hi:fm P w0 M0 s s')(h:aw P w0 M0 c s' Q):aw P w0 M0 c s Q:=fun a w hs=>h a w (hi a w hs)
theorem aw.mono {Q':Exit→St→Prop}(h:aw P w0 M0 c s Q)(hq:∀e s',Q e s'→Q' e s'):aw P w0 M0 c s Q' :=
 fun a w hs=>iU (h a w hs) fun e a' w' ⟨s',h1,h2⟩=>⟨s',hq _ _ h1,h2⟩
theorem JD (h:Q .normal s):aw P w0 M0 .skip s Q:=fun a w hs=>LO ⟨s,h,hs⟩
theorem LR (h:Q .ret s):aw P w0 M0 .ret s Q:=fun a w hs=>PX ⟨s,h,hs⟩
theorem JE {id:Nat}(h:Q (.exit id) s):aw P w0 M0 (.exit id) s Q:=fun a w hs=>LP ⟨s,h,hs⟩
def PZ (P:Program)(w0:Fr)(M0:Nat→Prop)(y:Code)(Q:Exit→St→Prop):Exit→St→Prop
 | .normal,s=>aw P w0 M0 y s Q
 | e,s=>Q e s
theorem DD (h:aw P w0 M0 x s (PZ P w0 M0 y Q)):aw P w0 M0 (.seq x y) s Q:=by intro a w hs;refine PY (iU (h a w hs) fun e a' w' ⟨s',h1,h2⟩=>?_);cases e<;>simp only[Exit.then,PZ] at h1 ⊢<;>first|exact h1 _ _ h2|exact⟨s',h1,h2⟩
def rT (id:Nat)(Q:Exit→St→Prop):Exit→St→Prop
 | .exit i,s=>if i=id then Q .normal s else Q (.exit i) s
 | e,s=>Q e s
theorem Gl {id:Nat}(h:aw P w0 M0 c s (rT id Q)):aw P w0 M0 (.block id c) s Q:=by intro a w hs;refine JC (iU (h a w hs) fun e a' w' ⟨s',h1,h2⟩=>?_);cases e<;>simp only[Exit.inBlock,rT] at h1 ⊢<;>first|exact⟨s',h1,h2⟩|(split at h1<;>simp_all<;>exact⟨s',h1,h2⟩)
theorem Ae {t:Nat}{b:Bool}(hb:bg s.ev (.tmp t)=some (.bool b))(ht:b=true→aw P w0 M0 x s Q)(hf:b=false→aw P w0 M0 y s Q) :
  aw P w0 M0 (.cond (.tmp t) x y) s Q:=by
 rintro a w ⟨E,hs⟩;have hv:a.eval (.tmp t)=.bool b:=bZ (ρ:=s.ev) (x:=.tmp t) (ob:=s.o) (ev:=a.eval) (fun x e hx=>hs.ev hx) hb;cases b
 ·exact xm hv (hf rfl a w ⟨E,hs⟩)
 ·exact zx hv (ht rfl a w ⟨E,hs⟩)
theorem DE {id:Nat}{ops:Array Oper}(l:List Nat)(hl:List.range ops.size=l)(h:vp P w0 M0 ops l s (Q .normal)):aw P w0 M0 (.region id ops false) s Q:=by
 intro a w hs;subst hl;refine iU (Gk sO (h a w hs)) fun e a' w' ⟨he,s',h1,h2⟩=>?_
 subst he;exact⟨s',h1,h2⟩
end code
theorem eW {s s':St}(hn:s'.n=s.n)(ho:s'.o=s.o)(h:∀t d,s'.s.lookup t=some d→s.s.lookup t=some d):fm P w0 M0 s s':=by rintro a w ⟨E,hs⟩;obtain⟨n',sl',o'⟩:=s';simp only at hn ho h;subst hn;subst ho;exact⟨E,hs.size,hs.defers,fun t d ht=>hs.slots t d (h t d ht),hs.wok⟩
theorem zA  (f:Nat→Bool) (l:List (Nat×α)) (t:Nat) (d:α) (h:(l.filter (fun p=>f p.1)).lookup t=some d):l.lookup t=some d:=by
 induction l with
 | nil=>simp at h
 | cons p r ih =>
   obtain⟨u,e⟩:=p;rw[abz] at h;rw[aq];split at h
   · rw [aq] at h
     split at h
     · rename_i h1;rw[if_pos h1];exact h
     · rename_i h1;rw[if_neg h1];exact ih h
   · rename_i hf
     have:=ih h;by_cases h1:t=u
     · exfalso
       subst h1
       -- t is filtered out everywhere
       have:∀r:List (Nat×α),(r.filter (fun p=>f p.1)).lookup t=none:=by
         intro r
         induction r with
         | nil=>rfl
         | cons q r ihr =>
           obtain⟨x,y⟩:=q;rw[abz];split
           · rename_i hx
             rw[aq];split
             · rename_i he;subst he;exact absurd hx hf
             · exact ihr
           · exact ihr
       rw[this] at h;cases h
     · rw[if_neg h1];exact this
def St.fH (n:Nat)(ds:List SV)(o:List (Nat×Ob)):St:={ n:=n,s:=ds.zipIdx.map (fun p=>(p.2,p.1)),o:=o }
theorem kF (ds:List SV):∀(k t:Nat)(d:SV),((ds.zipIdx k).map (fun p=>(p.2,p.1))).lookup t=some d→k≤t∧ds[t-k]?=some d:=by
 induction ds with
 | nil=>intro k t d h;simp at h
 | cons x r ih =>
   intro k t d h;rw[List.zipIdx_cons,abx,aq] at h;split at h
   · rename_i he
     simp only at he;subst he;simp only[aaB] at h;exact⟨aaD _,by simp[h]⟩
   · obtain ⟨h1, h2⟩ := ih (k + 1) t d h
     refine⟨adh,?_⟩;have:t-k=(t-(k+1))+1:=adh;rw[this,abY];exact h2
def St.enter (n:Nat)(c:fX)(ds:List AV):St:={ n:=n,s:=ds.zipIdx.map (fun p=>(p.2,.v c p.1)),o:=[] }
theorem e7 (n:Nat)(c:fX)(ds:List AV):St.enter n c ds=St.fH n (ds.map (.v c)) []:=by
 unfold St.enter St.fH
 congr 1
 have:∀k,(ds.zipIdx k).map (fun p=>(p.2,SV.v c p.1))=((ds.map (SV.v c)).zipIdx k).map (fun p=>(p.2,p.1)):=by
  induction ds with
  | nil=>intro k;rfl
  | cons x r ih=>intro k;rw[List.zipIdx_cons,abx,abx,List.zipIdx_cons,abx,ih]
 exact this 0
def bT (ob:List (Nat×Ob)):SV→Option RV
 | .v .pl (.sc (.slice none 0 0))=>some (.p (.sl []))
 | .v .pl d=>some (.p d)
 | .v _ (.sc u)=>some (.p (.sc u))
 | .own id => match ob.lookup id with
   | some (.arr e xs)=>some (.fresh e xs)
   | _=>none
 | .omap id => match ob.lookup id with
   | some (.mp ks vs)=>some (.p (.mp ks vs))
   | _=>none
 | _=>none
theorem ei {ob:List (Nat×Ob)}{w:World}{s:SV}{r:RV}(hw:gu P w0 M0 E ob w)(h:bm P M0 w E ob v s)(hr:bT ob s=some r):iN P w M0 w0.K v r:=by
 unfold bT at hr;split at hr
 ·simp only[aaB] at hr;subst hr;cases h;exact .sl none 0 0 [] 0 (fun _=>undef) J (aaD _) (by simp) (fun h=>absurd h adh) (fun j d hd=>by simp[flat] at hd) (fun j d hd=>by simp[flat] at hd)
 ·simp only[aaB] at hr;subst hr;exact bL.cm h (fun b hb=>.inl hb)
 ·simp only[aaB] at hr;subst hr;cases h;exact .sc _ ‹_›
 ·rename_i id;split at hr
  ·rename_i e xs hl;simp only[aaB] at hr;subst hr;rw[h e xs hl];obtain⟨vals,h1,h2,h3⟩:=hw.objs id _ hl;refine⟨vals,⟨h1.1,fun b hb=>(h1.2 b hb).1⟩,h2,fun j d hd=>⟨(h3 j d hd).1,(h3 j d hd).2.cm fun b hb=>?_⟩⟩;rcases hb with hb|hb
   ·exact .inl hb
   ·exact .inr ⟨id,_,hl,hb⟩
  ·cases hr
 ·rename_i id;split at hr
  ·rename_i ks vs hl;simp only[aaB] at hr;subst hr;rw[h ks vs hl];have hlt:=((hw.objs id _ hl).dG rfl).2;obtain⟨es,clock,h1,h2,h3,h4,h5⟩:=hw.objs id _ hl;exact .mp _ es clock ks vs h2.2 hlt h1 h3 h4 fun j d hd=>(h5 j d hd).cm fun b hb=>.inl hb
  ·cases hr
 ·cases hr
def H5 (P : Program) (f : FuncId) (n t : Nat) (c : Code) : Prop := ∃ fn, P.funcs[f]? = some fn ∧ fn.body = some c ∧ fn.ntmps = n ∧ fn.results = #[.tmp t] ∧ (fn.name == "runtime.NumGoroutine") = false
theorem H5.bu {f t:Nat}{c:Code}(h:H5 P f n t c):cq P f:=by obtain⟨fn,h1,h2,_,_,h5⟩:=h;exact⟨fn,h1,h5,by rw[h2];rfl⟩
def zB (t:Nat)(r:RV):Exit→St→Prop
 | .normal,s|.ret,s=>(s.s.lookup t).bind (bT s.o)=some r
 | _,_=>False
theorem kP.H6 {w0:Fr}(r r':Md){o:List (Nat×Ob)}{w:World}{id:Nat}{ob:Ob}(h:kP P { w0 with md:=r } M0 w E o id ob):kP P { w0 with md:=r' } M0 w E o id ob:=by
 cases ob with
 | arr e xs=>exact h
 | box e cs=>exact h
 | mp ks vs=>exact h
 | nar e cs ln =>
   obtain⟨n,vals,h1,h2,h3,h4,h5⟩:=h;exact⟨n,vals,h1,h2,h3,h4.go (nq.refl _ _) (fun _ _=>rfl) (fun _ _ h=>h) (fun _ _ h=>h),h5⟩
 | nmp ks cs ln =>
   obtain⟨es,clock,h1,h2,h3,h4,h5,h6,h7⟩:=h;exact⟨es,clock,h1,h2,h3,h4,h5,h6.go (nq.refl _ _) (fun _ _=>rfl) (fun _ _ h=>h) (fun _ _ h=>h),h7⟩
theorem gu.H6 {w0:Fr}(r r':Md){o:List (Nat×Ob)}{w:World}(h:gu P { w0 with md:=r } M0 E o w):gu P { w0 with md:=r' } M0 E o w :=
 ⟨fun id ob ho=>(h.objs id ob ho).H6 r r',h.disj,h.below,h.pins⟩
theorem gu.plain {o:List (Nat×Ob)}{w:World}(h:gu P w0 M0 E o w):gu P w0.plain M0 E o w:=gu.H6 (w0:=w0) w0.md .plain h
theorem gu.wz {o:List (Nat×Ob)}{w:World}(h:gu P w0.plain M0 E o w):gu P w0 M0 E o w:=gu.H6 (w0:=w0) .plain w0.md h
theorem ba.wz {s:St}{a:Act}{w:World}(h:ba P w0.plain M0 E s a w):ba P w0 M0 E s a w:=⟨h.size,.nil h.defers,h.slots,h.wok.wz⟩
theorem Gm {f t:Nat}{c:Code}(hf:H5 P f n t c){args:List SV}{o:List (Nat×Ob)}{R:St→Prop}{Q:Exit→St→Prop}{w:World}(hn:args.length≤n)(vs:List Value)(hv:vs.length=args.length)
  (hw:gu P w0 M0 E o w)(hr:∀(j:Nat) d,args[j]?=some d→bm P M0 w E o (vs.getD j undef) d)
  (h:aw P w0.plain M0 c (St.fH n args o) Q)(hQ:∀e s',Q e s'→(e=.normal∨e=.ret)∧R s') :
  Calls P f vs.toArray w fun e w'=>∃v E' s',e=.returned v∧R s'∧gu P w0 M0 E' s'.o w'∧∀d,s'.s.lookup t=some d→bm P M0 w' E' s'.o v d:=by
 obtain⟨fn,h1,h2,h3,h4,h5⟩:=hf;have hE:ba P w0.plain M0 E (St.fH n args o) { tmps:=vs.toArray++Array.replicate (fn.ntmps-vs.toArray.size) undef,defers:=[] } w:=by
  refine⟨by simp[St.fH,h3];omega,rfl,fun t d ht=>?_,hw.plain⟩;obtain⟨_,he⟩:=kF args 0 t d ht;rw[acE] at he;have hlt:t<args.length:=(aa0.1 he).1;refine⟨by simp[St.fH];omega,?_⟩;have:=hr t d he;have hget:(vs.toArray++Array.replicate (fn.ntmps-vs.toArray.size) undef).getD t undef=vs.getD t undef:=by
   rw[abc,ack (by simp;omega),aax];simp
  rw[hget];exact this
 refine calls_of_wp h1 h2 (wp_mono (show Code.wp P c _ _ _ from h _ _ ⟨_,hE⟩) fun e a' w' ⟨s',hq,E',hs⟩=>?_);have hdf:a'.defers=[]:=hs.defers;have hs:=hs.wz;obtain⟨he,hR⟩:=hQ e s' hq;have fin:a'.defers=[]∧∃v,(results fn a'.tmps).run P w'=.ok v w'∧∃v_1 E'_1 s'_1,Ending.returned v=Ending.returned v_1∧R s'_1∧gu P w0 M0 E'_1 s'_1.o w'∧∀d,s'_1.s.lookup t=some d→bm P M0 w' E'_1 s'_1.o v_1 d :=
  ⟨hdf,a'.tmps.getD t undef,by simp[results,h4],_,E',s',rfl,hR,hs.wok,fun d hd=>(hs.slots t d hd).2⟩
 rcases he with rfl|rfl
 ·exact fin
 ·exact fin
theorem jO {D:Prop}{w:World}:gu P (Fr.PV D w) M0 ⟨fun _=>undef,fun _=>0,fun _ _=>undef⟩ [] w :=
 ⟨fun id ob ho=>by simp at ho,fun id ob id' ob' b ho=>by simp at ho,.refl _ _,fun x hx=>by cases hx⟩
theorem ew :owned E []=fun _=>False:=by
 funext b;apply propext;constructor
 ·rintro⟨id,ob,h,_⟩;simp at h
 ·intro h;exact h.elim
theorem rq {D:Prop}{f t:Nat}{c:Code}(hf:H5 P f n t c){r:RV}{cl:fX}{w:World}(hn:ds.length≤n)(vs:List Value)(hv:vs.length=ds.length)
   (hr:∀(j:Nat) d,ds[j]?=some d→bL w (cI M0 (fun _=>False) cl) (vs.getD j undef) d)
   (h:aw P (Fr.PV D w) M0 c (St.enter n cl ds) (zB t r)) :
   Calls P f vs.toArray w fun e w'=>∃v,e=.returned v∧bD D w.heap.size w w'∧iN P w' M0 (fun b=>b<w.heap.size) v r:=by
 rw[e7] at h;refine(Gm (R:=fun s'=>(s'.s.lookup t).bind (bT s'.o)=some r) hf (by simpa using hn) vs (by simpa using hv) jO (fun j d hd=>?_) h (fun e s' hq=>?_)).mono fun e w' ⟨v,E',s',he,hR,hw,hsv⟩=>?_
 · rw [aaI, aaH] at hd
   obtain⟨a,ha,rfl⟩:=hd;have:=hr j a ha;simp only[bm,ew];exact this
 · cases e with
   | normal=>exact⟨.inl rfl,hq⟩
   | ret=>exact⟨.inr rfl,hq⟩
   | exit _=>exact hq.elim
   | goto _=>exact hq.elim
   | panic _=>exact hq.elim
   | outgrown=>exact hq.elim
 · refine ⟨v, he, hw.below.below, ?_⟩
   cases hl:s'.s.lookup t with
   | none=>rw[hl] at hR;cases hR
   | some sv =>
     rw[hl] at hR;exact ei hw (hsv sv hl) hR
theorem zC {f t:Nat}{c:Code}(hf:H5 P f n t c){r:RV}(hn:ds.length≤n)
  (h:∀(w0:Fr)(M0:Nat→Prop),(∀b,M0 b→b<w0.w.heap.size)→aw P w0 M0 c (St.enter n .mx ds) (zB t r)):au P f ds r :=
 ⟨hf.bu,fun w vs hv hr=>rq (cl:=.mx) hf hn vs hv (fun j d hd=>hr j d hd) (h (Fr.all w) (fun b=>b<w.heap.size) (fun b hb=>hb))⟩
theorem zD {f t:Nat}{c:Code}(hf:H5 P f n t c){r:RV}(hn:ds.length≤n)
  (h:∀(w0:Fr)(M0:Nat→Prop),(∀b,M0 b→b<w0.w.heap.size)→aw P w0 M0 c (St.enter n .pl ds) (zB t r)):aV P f ds r :=
 ⟨hf.bu,fun w M vs hM hv hr=>rq (cl:=.pl) hf hn vs hv (fun j d hd=>(hr j d hd).cm (fun b hb=>Or.elim hb id (fun h=>False.elim h))) (h (Fr.all w) M hM)⟩
end
open Go.RowKit
def looks (ops:Array Oper)(o:Oper):List Nat:=o.looksAt ops
def gg (o:Oper):List Nat:=(o.after.toList.filter (Region.binds .any ·)).map (·.on)
def kS (ops:Array Oper):Nat→Nat→List Nat
 | 0,_=>[]
 | n + 1, i => match ops[i]? with
   | some o=>gg o++(gg o).flatMap (kS ops n)
   | none=>[]
def l7 (ops : Array Oper) : Bool :=
 Region.noSelect ops&&(List.range ops.size).all fun i=>match ops[i]? with
   | none=>false
   | some o => (gg o).all (fun j => Nat.blt j i) &&
     (List.range ops.size).all fun j=>match ops[j]? with
       | none=>false
       | some p=>Nat.beq i j||((match o.dst,p.dst with|some t,some u=>!(Nat.beq t u)|_,_=>true) &&
           (match p.dst with|some u=>!(looks ops o).contains u||((gg o).contains j&&Nat.blt j i)||((gg p).contains i&&Nat.blt i j)|none=>true))
def px (ops:Array Oper)(i:Nat):Bool:=(List.range ops.size).all fun q=>Nat.blt q i||(List.range q).all fun j=>(kS ops ops.size q).contains j
def fC (ops:Array Oper)(i:Nat):Bool:=(List.range ops.size).all fun q=>Nat.blt q i||(List.range i).all fun j=>(kS ops ops.size q).contains j
theorem zE {ops:Array Oper}{i:Nat}(h:px ops i=true):fC ops i=true:=by
 unfold px at h;unfold fC;rw[aa5] at h ⊢;intro q hq;have:=h q hq;rw[abC] at this ⊢;rcases this with h1|h1
 ·exact .inl h1
 ·by_cases hqi:q<i
  ·exact .inl (by simpa using hqi)
  ·refine .inr ?_;rw[aa5] at h1 ⊢;exact fun j hj=>h1 j (aba.2 (by have:=aba.1 hj;omega))
def fx (ops:Array Oper)(o:Oper)(ρ:Operand→Option SV):Operand→Option SV
 | .tmp t=>if(looks ops o).contains t then ρ (.tmp t) else none
 | x=>ρ x
variable{j:Nat}
section
variable {P:Program} {w0:Fr}{M0:Nat→Prop}
def l8 (P:Program)(w0:Fr)(M0:Nat→Prop)(Q:St→Prop):List Oper→St→Prop
 | [],s=>Q s
 | o :: rest,s=>o.guard=none∧∃s',Step P w0 M0 o s s'∧l8 P w0 M0 Q rest s'
theorem l8.mono {Q Q':St→Prop}(h:∀s,Q s→Q' s):∀{l:List Oper}{s:St},l8 P w0 M0 Q l s→l8 P w0 M0 Q' l s
 | [],s,ht=>h s ht
 | o :: r,s,⟨h1,s',h2,h3⟩=>⟨h1,s',h2,l8.mono h h3⟩
def rU (P:Program)(w0:Fr)(M0:Nat→Prop)(ops:Array Oper)(Q:St→Prop)(m:Nat)(s:St):Prop :=
 ∀ (fuel : Nat) (L : Array Bool) (a : Act) (w : World), L.size = ops.size → (∀ j, j < ops.size → (L.getD j false = true ↔ j < m)) → pv P w0 M0 s a w → ops.size - m ≤ fuel →
   wpAny P .any ops (fun e a' w'=>e=.normal∧∃s',Q s'∧pv P w0 M0 s' a' w') fuel L a w
def H7 (P:Program)(w0:Fr)(M0:Nat→Prop)(ops:Array Oper)(Q:St→Prop):List Oper→Nat→St→Prop
 | [],_,s=>Q s
 | o :: rest, i, s =>
   (∃t,o.dst=some t∧t<s.n∧∃g,guardOf ops s.ev o=some g∧∃d,(g=true→Pure P w0 M0 o (fx ops o s.ev) s.o d)∧(g=false→d=.v .pl (.tup []))∧H7 P w0 M0 ops Q rest (i+1) (s.put t d)) ∨
   (px ops i=true∧l8 P w0 M0 Q (o :: rest) s)∨(fC ops i=true∧rU P w0 M0 ops Q i s)
variable {ops:Array Oper}{Q:St→Prop}
structure Vo (P:Program)(w0:Fr)(M0:Nat→Prop)(ops:Array Oper)(k i:Nat)(S:Nat→St)(T:Nat→Nat)(D:Nat→SV):Prop where
 next:∀j,i≤j→j<k→S (j+1)=(S j).put (T j) (D j)
 op:∀j,i≤j→j<k→∃o,ops[j]?=some o∧o.dst=some (T j)∧T j<(S j).n∧∃g,guardOf ops (S j).ev o=some g∧(g=true→Pure P w0 M0 o (fx ops o (S j).ev) (S j).o (D j))∧(g=false→D j=.v .pl (.tup []))
theorem sP:∀ (l:List Oper)(i:Nat)(s:St),(∀j,l[j]?=ops[i+j]?)→H7 P w0 M0 ops Q l i s →
   ∃ (k : Nat) (S : Nat → St) (T : Nat → Nat) (D : Nat → SV), i ≤ k ∧ S i = s ∧ Vo P w0 M0 ops k i S T D ∧
     ((k=i+l.length∧Q (S k))∨(k<i+l.length∧((px ops k=true∧l8 P w0 M0 Q (l.drop (k-i)) (S k))∨(fC ops k=true∧rU P w0 M0 ops Q k (S k)))))
 | [],i,s,_,h=>⟨i,fun _=>s,fun _=>0,fun _=>.dead,aaD _,rfl,⟨fun j h1 h2=>adh,fun j h1 h2=>adh⟩,.inl ⟨by simp,h⟩⟩
 | o :: rest, i, s, hl, h => by
   have hoi:ops[i]?=some o:=by have:=hl 0;simpa using this.symm
   rcases h with⟨t,ht,hn,g,hg,d,h1,h0,h⟩|⟨htl,hq⟩|⟨htl,hq⟩
   · obtain ⟨k, S, T, D, hik, hS, hR, hend⟩ := sP rest (i + 1) (s.put t d) (fun j => by have := hl (j + 1); rw [abY] at this; rw [this]; congr 1; omega) h
     refine⟨k,fun j=>if j=i then s else S j,fun j=>if j=i then t else T j,fun j=>if j=i then d else D j,adh,by simp,⟨fun j h1 h2=>?_,fun j h1' h2=>?_⟩,?_⟩
     · by_cases hj : j = i
       · subst hj;simp[hS]
       · have e1 : j + 1 ≠ i := adh
         simp only[hj,e1,if_false];exact hR.next j adh h2
     · by_cases hj : j = i
       · subst hj
         simp only[if_true];exact⟨o,hoi,ht,hn,g,hg,h1,h0⟩
       · simp only [hj, if_false]
         exact hR.op j adh h2
     · have hki : k ≠ i := adh
       simp only[hki,if_false];rcases hend with⟨hk,hq⟩|⟨hk,hrest⟩
       · exact .inl ⟨by simp;omega,hq⟩
       · refine .inr ⟨by simp; omega, ?_⟩
         rcases hrest with hrest|hrest
         · refine .inl ⟨hrest.1, ?_⟩
           have e1:k-i=(k-(i+1))+1:=adh;rw[e1,List.drop_succ_cons];exact hrest.2
         · exact .inr hrest
   · exact⟨i,fun _=>s,fun _=>0,fun _=>.dead,aaD _,rfl,⟨fun j h1 h2=>adh,fun j h1 h2=>adh⟩,.inr ⟨by simp,.inl ⟨htl,by rw[acM];exact hq⟩⟩⟩
   · exact⟨i,fun _=>s,fun _=>0,fun _=>.dead,aaD _,rfl,⟨fun j h1 h2=>adh,fun j h1 h2=>adh⟩,.inr ⟨by simp,.inr ⟨htl,hq⟩⟩⟩
theorem mM (h:l7 ops=true):Region.noSelect ops=true∧∀i o,ops[i]?=some o→(∀j∈gg o,j<i) ∧
   ∀ j p, ops[j]? = some p → i ≠ j → (∀ t u, o.dst = some t → p.dst = some u → t ≠ u) ∧
     ∀u,p.dst=some u→u∈looks ops o→(j∈gg o∧j<i)∨(i∈gg p∧i<j):=by
 unfold l7 at h;rw[aaZ,aa5] at h;refine⟨h.1,fun i o ho=>?_⟩;have hi:=h.2 i (aba.2 (abn.1 ho).1);simp only[ho,aaZ,aa5] at hi;refine⟨fun j hj=>by simpa using hi.1 j hj,fun j p hp hij=>?_⟩;have hj:=hi.2 j (aba.2 (abn.1 hp).1);simp only[hp,abC,aaZ] at hj;rcases hj with hj|⟨h1,h2⟩
 · exact absurd (aby hj) hij
 · refine ⟨fun t u ht hu => ?_, fun u hu hl => ?_⟩
   · simp only [ht, hu, abw] at h1
     intro he;subst he;simp at h1
   · simp only [hu, abC, aaZ, abw] at h2
     rcases h2 with(h2|h2)|h2
     · have : (looks ops o).contains u = true := abv.2 hl
       rw[h2] at this;cases this
     · exact .inl ⟨abv.1 h2.1,by simpa using h2.2⟩
     · exact .inr ⟨abv.1 h2.1,by simpa using h2.2⟩
theorem filter_le (p q:Nat→Bool)(h:∀x,q x=true→p x=true):∀l:List Nat,(l.filter q).length≤(l.filter p).length
 | []=>by simp
 | x :: r => by
   have ih:=filter_le p q h r;rw[abz,abz];cases hq:q x<;>cases hp:p x
   · simpa[hq,hp] using ih
   · simp only[acJ,if_false,if_true,aaE];omega
   · have:=h x hq;rw[hp] at this;cases this
   · simp only[if_true,aaE];omega
theorem filter_lt (p q:Nat→Bool)(h:∀x,q x=true→p x=true):∀(l:List Nat)(i:Nat),i∈l→p i=true→q i=false→(l.filter q).length<(l.filter p).length
 | [],i,hi,_,_=>by cases hi
 | x :: r, i, hi, hp, hq => by
   rw[abz,abz];by_cases hx:i=x
   · subst hx
     have:=filter_le p q h r;simp only[hp,hq,acJ,if_false,if_true,aaE];omega
   · have ih := filter_lt p q h r i (by rcases aa3.1 hi with h | h; exact absurd h hx; exact h) hp hq
     cases hq':q x<;>cases hp':p x
     · simpa[hq',hp'] using ih
     · simp only[acJ,if_false,if_true,aaE];omega
     · have:=h x hq';rw[hp'] at this;cases this
     · simp only[if_true,aaE];omega
theorem kG {α:Type}{t:Nat}{d:α}:∀(l:List (Nat×α)),l.lookup t=some d→(t,d)∈l
 | [],h=>by simp at h
 | (u, e) :: r, h => by
   rw[aq] at h;split at h
   · rename_i he
     subst he;simp only[aaB] at h;subst h;exact aaJ
   · exact aaW _ (kG r h)
def ou (ops:Array Oper)(L:Array Bool):Prop:=∀i o,ops[i]?=some o→L.getD i false=true→∀j∈gg o,L.getD j false=true
theorem Af {o:Oper}:j∈gg o↔∃e∈o.after,Region.binds .any e=true∧e.on=j:=by
 unfold gg;simp only[aa7,abA,Array.mem_toList_iff];constructor
 ·rintro⟨e,⟨h1,h2⟩,h3⟩;exact⟨e,h1,h2,h3⟩
 ·rintro⟨e,h1,h2,h3⟩;exact⟨e,⟨h1,h2⟩,h3⟩
theorem gJ {L:Array Bool}:j∈Region.ready .any ops L↔L.getD j true=false∧∃o,ops[j]?=some o∧∀i∈gg o,L.getD i false=true:=by
 rw[mem_ready];constructor
 ·rintro⟨h1,o,h2,h3⟩;exact⟨h1,o,h2,fun i hi=>by obtain⟨e,he,hb,rfl⟩:=Af.1 hi;exact h3 e he hb⟩
 ·rintro⟨h1,o,h2,h3⟩;exact⟨h1,o,h2,fun e he hb=>h3 e.on (Af.2 ⟨e,he,hb,rfl⟩)⟩
theorem e8 {L:Array Bool}(hc:ou ops L):∀(n i:Nat)(o:Oper),ops[i]?=some o→(∀j∈gg o,L.getD j false=true)→(∀i o,ops[i]?=some o→∀j∈gg o,j<i)→∀j∈kS ops n i,L.getD j false=true
 | 0,i,o,_,_,_,j,hj=>by simp[kS] at hj
 | n + 1, i, o, ho, hp, hlt, j, hj => by
   simp only[kS,ho,abl,aca] at hj;rcases hj with hj|⟨x,hx,hj⟩
   · exact hp j hj
   · have hxi := hlt i o ho x hx
     have hos:x<ops.size:=by have:=(abn.1 ho).1;omega
     have hox:ops[x]?=some ops[x]:=abd hos;exact e8 hc n x ops[x] hox (fun y hy=>hc x _ hox (hp x hx) y hy) hlt j hj
theorem cr {L:Array Bool}{i:Nat}(hi:i<L.size):(L.setIfInBounds i true).getD j false=if j=i then true else L.getD j false:=by
 by_cases h:j=i
 ·subst h;simp[hi]
 ·rw[getD_set_ne false (abN h),if_neg h]
structure Mid (P:Program)(w0:Fr)(M0:Nat→Prop)(ops:Array Oper)(k:Nat)(S:Nat→St)(T:Nat→Nat)(D:Nat→SV)(L:Array Bool)(a:Act)(w:World)(E:Env):Prop where
 size:a.tmps.size=(S 0).n
 defers:Marks w0 a w
 wok:gu P w0 M0 E (S 0).o w
 done:∀j,j<k→L.getD j false=true→T j<(S 0).n∧bm P M0 w E (S 0).o (a.tmps.getD (T j) undef) (D j)
 old:∀t d,(S 0).s.lookup t=some d→(∀j,j<k→L.getD j false=true→T j≠t)→t<(S 0).n∧bm P M0 w E (S 0).o (a.tmps.getD t undef) d
variable {k:Nat} {S:Nat→St}{T:Nat→Nat}{D:Nat→SV}
theorem Vo.same (hR:Vo P w0 M0 ops k 0 S T D):∀j,j≤k→(S j).n=(S 0).n∧(S j).o=(S 0).o
 | 0,_=>⟨rfl,rfl⟩
 | j + 1, h => by
   have ih:=hR.same j adh;rw[hR.next j adh adh];exact ih
theorem Vo.look (hR:Vo P w0 M0 ops k 0 S T D)(hd:∀i j,i<k→j<k→i≠j→T i≠T j)(t:Nat):∀i,i≤k →
   (∃j,j<i∧T j=t∧(S i).s.lookup t=some (D j))∨((∀j,j<i→T j≠t)∧(S i).s.lookup t=(S 0).s.lookup t)
 | 0,_=>.inr ⟨fun j h=>adh,rfl⟩
 | i + 1, h => by
   rw[hR.next i adh adh];simp only[St.put,aC];by_cases ht:t=T i
   · subst ht
     exact .inl ⟨i,adh,rfl,by simp⟩
   · rw [if_neg ht]
     rcases hR.look hd t i adh with⟨j,h1,h2,h3⟩|⟨h1,h2⟩
     · exact .inl ⟨j,adh,h2,h3⟩
     · refine .inr ⟨fun j hj => ?_, h2⟩
       by_cases hji:j=i
       · subst hji;exact fun he=>ht he.symm
       · exact h1 j adh
theorem LS (hlt:∀ i o,ops[i]?=some o→∀ j∈gg o,j<i) {k:Nat} (htl:px ops k=true):∀ (fuel m:Nat) (L:Array Bool) (a:Act) (w:World) (s:St),L.size=ops.size→(∀ j,j<ops.size→(L.getD j false=true↔j<m))→k≤m→m≤ops.size →
   l8 P w0 M0 Q (ops.toList.drop m) s→pv P w0 M0 s a w→ops.size-m≤fuel→wpAny P .any ops (fun e a' w'=>e=.normal∧∃s',Q s'∧pv P w0 M0 s' a' w') fuel L a w:=by
 intro fuel;have hready:∀(m:Nat)(L:Array Bool),L.size=ops.size→(∀j,j<ops.size→(L.getD j false=true↔j<m))→k≤m→∀j∈Region.ready .any ops L,j=m:=by
   intro m L hL hm hkm j hj;obtain⟨h1,o,ho,hp⟩:=gJ.1 hj;have hjs:=(abn.1 ho).1;have hx:L[j]?=some L[j]:=abd adh;have hnf:¬j<m:=fun h=>by
     have:=(hm j hjs).2 h;rw[abc,hx] at h1 this;simp only[acI] at h1 this;rw[h1] at this;cases this
   have hc:ou ops L:=fun i o hi BQ q hq=>by
     have his:=(abn.1 hi).1;have:=hlt i o hi q hq;exact(hm q adh).2 (by have:=(hm i his).1 BQ;omega)
   rcases aa9 m j with hmj|hmj
   · unfold px at htl
     rw[aa5] at htl;have h2:=htl j (aba.2 hjs);rw[abC] at h2;rcases h2 with h2|h2
     · have : j < k := by simpa using h2
       omega
     · rw [aa5] at h2
       have h3:=e8 hc ops.size j o ho hp hlt m (abv.1 (h2 m (aba.2 hmj)));have:=(hm m adh).1 h3;omega
   · omega
 have hnil:∀(L:Array Bool),L.size=ops.size→(∀j,j<ops.size→(L.getD j false=true↔j<ops.size))→k≤ops.size→Region.ready .any ops L=[]:=by
   intro L hL hm hk;cases hr:Region.ready .any ops L with
   | nil=>rfl
   | cons j r =>
     have hj:j∈Region.ready .any ops L:=by rw[hr];exact aaJ
     have he:=hready ops.size L hL hm hk j hj;obtain⟨_,o,ho,_⟩:=gJ.1 hj;have:=(abn.1 ho).1;omega
 induction fuel with
 | zero =>
   intro m L a w s hL hm hk hms ht hs hf;obtain rfl:m=ops.size:=adh;rw[abM (by simp)] at ht;exact⟨hnil L hL hm hk,rfl,s,ht,hs⟩
 | succ fuel ih =>
   intro m L a w s hL hm hk hms ht hs hf;rcases aa9 m ops.size with hlt'|hge
   · have hin : m ∈ Region.ready .any ops L := by
       refine gJ.2 ⟨?_,ops[m],abd hlt',fun q hq=>?_⟩
       · have hx : L[m]? = some L[m] := abd adh
         cases hv:L[m] with
         | false=>rw[abc,hx,hv];rfl
         | true =>
           have:=(hm m hlt').1 (by rw[abc,hx,hv];rfl);omega
       · have := hlt m ops[m] (abd hlt') q hq
         exact(hm q adh).2 this
     refine⟨fun hr=>(by rw[hr] at hin;cases hin),fun i hi=>?_⟩;obtain rfl:=hready m L hL hm hk i hi;have hd:ops.toList.drop i=ops[i] :: ops.toList.drop (i+1):=by
       rw[ab4 (by simpa using hlt')];simp
     rw[hd] at ht;obtain⟨hgd,s',hst,hrest⟩:=ht;have ho:ops[i]?=some ops[i]:=abd hlt';unfold wpOp;simp only[ho,Region.wanted,hgd,if_true];refine .inl (Oper.wp_mono (fun a' w' h'=>?_) (hst a w _ hs));refine ih (i+1) _ a' w' s' (by simp[hL]) (fun j hj=>?_) adh adh hrest h' adh;rw[cr adh];by_cases hji:j=i
     · rw [if_pos hji]; constructor
       · intro _;omega
       · intro _;rfl
     · rw[if_neg hji,hm j hj];omega
   · obtain rfl : m = ops.size := adh
     rw[abM (by simp)] at ht;have hn:=hnil L hL hm hk;exact⟨fun _=>⟨rfl,s,ht,hs⟩,fun i hi=>by rw[hn] at hi;cases hi⟩
theorem wb {id:Nat} {s:St} (hm:P.follows .mixedOrders=true) (hok:l7 ops=true) (h:H7 P w0 M0 ops Q ops.toList 0 s) {Q':Exit→St→Prop} (hQ:∀ s,Q s→Q' .normal s) :
   aw P w0 M0 (.region id ops true) s Q':=by
 obtain⟨k,S,T,D,_,hS,hR,hend⟩:=sP ops.toList 0 s (fun j=>by simp) h;obtain⟨hns,hsp⟩:=mM hok;have hsel:∀(j:Nat)(o:Oper) cs b,ops[j]?=some o→o.op≠.select cs b:=fun j o cs b ho=>Region.noSelect_spec hns j o cs b ho
 have hlt:∀i o,ops[i]?=some o→∀j∈gg o,j<i:=fun i o ho=>(hsp i o ho).1
 have hlen:ops.toList.length=ops.size:=by simp
 have hks:k≤ops.size:=by rcases hend with⟨h1,_⟩|⟨h1,_⟩<;>omega
 have hT:∀i j,i<k→j<k→i≠j→T i≠T j:=fun i j hi hj hij=>by
   obtain⟨o,ho,hd,_⟩:=hR.op i adh hi;obtain⟨p,hp,hd',_⟩:=hR.op j adh hj;exact((hsp i o ho).2 j p hp hij).1 _ _ hd hd'
 -- the state azs the text's order has it, once all pure ones are done
 have full:∀(L:Array Bool) a w E,Mid P w0 M0 ops k S T D L a w E→(∀j,j<k→L.getD j false=true)→ba P w0 M0 E (S k) a w:=by
   intro L a w E hM hall;have hsame:=hR.same k (aaD _);refine⟨by rw[hsame.1];exact hM.size,hM.defers,fun t d ht=>?_,by rw[hsame.2];exact hM.wok⟩;rw[hsame.1,hsame.2];rcases hR.look hT t k (aaD _) with⟨j,h1,h2,h3⟩|⟨h1,h2⟩
   · rw [h3] at ht
     simp only[aaB] at ht;subst ht;subst h2;exact hM.done j h1 (hall j h1)
   · rw [h2] at ht
     exact hM.old t d ht (fun j hj _=>h1 j hj)
 have main : ∀ (fuel : Nat) (L : Array Bool) (a : Act) (w : World) (E : Env), L.size = ops.size → ou ops L → (∀ j, k ≤ j → L.getD j false = false) → Mid P w0 M0 ops k S T D L a w E →
     ((List.range ops.size).filter (fun j=>!L.getD j false)).length≤fuel →
     wpAny P .any ops (fun e a' w'=>e=.normal∧∃s',Q s'∧pv P w0 M0 s' a' w') fuel L a w:=by
   intro fuel
   -- if something is left, something is ready
   have ready_ne:∀(L:Array Bool),L.size=ops.size→∀j,j<ops.size→L.getD j false=false→Region.ready .any ops L≠[]:=by
     intro L hL j
     induction j using Nat.strongRecOn with
     | _ j ih =>
       intro hj hf;by_cases hall:∀i∈gg ops[j],L.getD i false=true
       · intro he
         have:j∈Region.ready .any ops L:=gJ.2 ⟨by
           have:L[j]?=some L[j]:=abd adh;simp[this] at hf ⊢;exact hf,ops[j],abd hj,hall⟩
         rw[he] at this;cases this
       · simp only [Classical.not_forall] at hall
         obtain⟨i,hi,hif⟩:=hall;have hij:=hlt j ops[j] (abd hj) i hi;exact ih i hij adh (by cases hh:L.getD i false<;>simp_all)
   induction fuel with
   | zero =>
     intro L a w E hL hc hk hM hfu;have hall:∀j,j<ops.size→L.getD j false=true:=by
       intro j hj;cases hf:L.getD j false
       · have : j ∈ (List.range ops.size).filter (fun j => !L.getD j false) := abA.2 ⟨aba.2 hj, by simp [hf]⟩
         have:=acD this;omega
       · rfl
     refine⟨?_,rfl,?_⟩
     · cases hr : Region.ready .any ops L with
       | nil=>rfl
       | cons j r =>
         have:j∈Region.ready .any ops L:=by rw[hr];exact aaJ
         obtain⟨h1,o,ho,_⟩:=gJ.1 this;have hjs:=(abn.1 ho).1;have:=hall j hjs;have hx:L[j]?=some L[j]:=abd adh;simp[hx] at h1 this;rw[h1] at this;cases this
     · rcases hend with ⟨h1, hq⟩ | ⟨h1, _⟩
       · exact⟨S k,hq,E,full L a w E hM (fun j hj=>hall j adh)⟩
       · have := hall k adh
         rw[hk k (aaD _)] at this;cases this
   | succ fuel ih =>
     intro L a w E hL hc hk hM hfu;refine⟨fun hr=>?_,fun i hi=>?_⟩
     · have hall : ∀ j, j < ops.size → L.getD j false = true := by
         intro j hj;cases hf:L.getD j false
         · exact absurd hr (ready_ne L hL j hj hf)
         · rfl
       rcases hend with⟨h1,hq⟩|⟨h1,_⟩
       · exact⟨rfl,S k,hq,E,full L a w E hM (fun j hj=>hall j adh)⟩
       · have := hall k adh
         rw[hk k (aaD _)] at this;cases this
     · obtain ⟨hni, o, ho, hpre⟩ := gJ.1 hi
       have his:=(abn.1 ho).1;have BQ:L.getD i false=false:=by
         have hx:L[i]?=some L[i]:=abd adh;simp[hx] at hni ⊢;exact hni
       by_cases hik:i<k
       · -- a pure one
         obtain⟨o',ho',hdst,Yw,g,hg,hp1,hp0⟩:=hR.op i adh hik;obtain rfl:o'=o:=by rw[ho] at ho';exact(Option.some.inj ho').symm
         have hsame:=hR.same i adh
         -- slots that it reads hold what the text's order has
         have hlook:∀t d,t∈looks ops o'→(S i).s.lookup t=some d→t<(S 0).n∧bm P M0 w E (S 0).o (a.tmps.getD t undef) d:=by
           intro t d ht hd;rcases hR.look hT t i adh with⟨j,h1,h2,h3⟩|⟨h1,h2⟩
           · rw [h3] at hd
             simp only[aaB] at hd;subst hd;subst h2;obtain⟨p,hp,hpd,_⟩:=hR.op j adh adh;rcases((hsp i o' ho).2 j p hp adh).2 _ hpd ht with⟨hj,_⟩|⟨_,hj⟩
             · exact hM.done j adh (hpre j hj)
             · omega
           · rw [h2] at hd
             refine hM.old t d hd fun j hj zF he=>?_
             by_cases hji:j<i
             · exact h1 j hji he
             · have hne : i ≠ j := by rintro rfl; rw [BQ] at zF; cases zF
               obtain⟨p,hp,hpd,_⟩:=hR.op j adh hj;rw[he] at hpd;rcases((hsp i o' ho).2 j p hp hne).2 _ hpd ht with⟨_,hj'⟩|⟨hj',_⟩
               · omega
               · have := hc j p hp zF i hj'
                 rw[BQ] at this;cases this
         have hgd:Region.wanted o' (yielded ops a.tmps)=g:=by
           -- the guard reads one slot
           have hE':ba P w0 M0 E { n:=(S 0).n,s:=(S i).s.filter (fun p=>(looks ops o').contains p.1),o:=(S 0).o } a w:=by
             refine⟨hM.size,hM.defers,fun t d ht=>?_,hM.wok⟩;have h1:=zA (fun t=>(looks ops o').contains t) (S i).s t d ht;have h2:t∈looks ops o':=by
               have:(t,d)∈(S i).s.filter (fun p=>(looks ops o').contains p.1):=kG _ ht;have:=(abA.1 this).2;exact abv.1 this
             exact hlook t d h2 h1
           refine xn hE' ?_;rw[←hg];unfold guardOf;cases hgu:o'.guard with
           | none=>rfl
           | some jw =>
             obtain⟨j,want⟩:=jw;simp only
             cases hjd:(ops[j]?).bind (·.dst) with
             | none=>rfl
             | some t =>
               have htl:t∈looks ops o':=by
                 simp[looks,Oper.looksAt,hgu,hjd]
               have:∀(l:List (Nat×SV)),(l.filter (fun p=>(looks ops o').contains p.1)).lookup t=l.lookup t:=by
                 intro l
                 induction l with
                 | nil=>rfl
                 | cons p r ih =>
                   obtain⟨x,y⟩:=p;rw[abz];split
                   · rw[aq,aq,ih]
                   · rename_i hx
                     rw[aq,ih,if_neg];rintro rfl;exact hx (abv.2 htl)
               simp only[St.ev,this]
         have finish:∀(v:Value)(w':World),bD w0.dr w.heap.size w w'→bm P M0 w' E (S 0).o v (D i)→wpAny P .any ops (fun e a' w'=>e=.normal∧∃s',Q s'∧pv P w0 M0 s' a' w') fuel (L.setIfInBounds i true) (a.put o'.dst v) w':=by
           intro v w' hb hv;have hgetne:∀t,t≠T i→(a.put o'.dst v).tmps.getD t undef=a.tmps.getD t undef:=by
             intro t ht;simp[hdst,Act.put,abc,abN ht]
           have hgeteq:(a.put o'.dst v).tmps.getD (T i) undef=v:=by
             have:=hM.size;rw[hsame.1] at Yw;simp[hdst,Act.put,abc,this,Yw]
           refine ih (L.setIfInBounds i true) _ w' E (by simp[hL]) (fun j p hp zF x hx=>?_) (fun j hj=>?_) ⟨?_,?_,hM.wok.grow hb,fun j hj zF=>?_,fun t d ht hno=>?_⟩ ?_
           · rw [cr adh] at zF ⊢
             by_cases hji:j=i
             · subst hji
               obtain rfl:p=o':=by rw[ho] at hp;exact(Option.some.inj hp).symm
               split
               · rfl
               · exact hpre x hx
             · rw [if_neg hji] at zF
               split
               · rfl
               · exact hc j p hp zF x hx
           · rw[cr adh,if_neg adh];exact hk j hj
           · simp[hdst,Act.put];exact hM.size
           · exact(hM.defers.below hb).same (by rw[hdst];rfl) fun _ h=>h
           · rw [cr adh] at zF
             by_cases hji:j=i
             · subst hji
               rw[hgeteq];exact⟨by rw[←hsame.1];exact Yw,hv⟩
             · rw [if_neg hji] at zF
               have:=hM.done j hj zF;rw[hgetne _ (hT j i hj hik hji)];exact⟨this.1,this.2.below hb⟩
           · have hti : T i ≠ t := hno i hik (by rw [cr adh, if_pos rfl])
             have:=hM.old t d ht (fun j hj zF=>hno j hj (by rw[cr adh];split<;>first|rfl|exact zF));rw[hgetne t (abN hti)];exact⟨this.1,this.2.below hb⟩
           · -- mN are left
             have hlt':=filter_lt (fun j=>!L.getD j false) (fun j=>!(L.setIfInBounds i true).getD j false) (fun x hx=>by
               rw[cr adh] at hx;split at hx
               · cases hx
               · exact hx) (List.range ops.size) i (aba.2 his) (by rw[BQ];rfl) (by rw[cr adh,if_pos J];rfl)
             omega
         unfold wpOp;simp only[ho,hgd];cases g with
         | false =>
           simp only[acJ,if_false];refine finish undef w (.refl _ _) ?_;rw[hp0 rfl];exact DB
         | true =>
           simp only[if_true];refine .inl ?_;have hy:=hp1 rfl E w a.eval (by rw[hsame.2];exact hM.wok) (fun x e hx=>by
             rw[hsame.2];cases x with
             | tmp t =>
               unfold fx at hx;by_cases hc:(looks ops o').contains t=true
               · simp only [hc, if_true] at hx
                 exact(hlook t e (abv.1 hc) hx).2
               · simp only[hc] at hx;cases hx
             | const v =>
               simp only[fx,St.ev,aaH] at hx;obtain⟨e',he',rfl⟩:=hx;exact xk he'
             | func f =>
               simp only[fx,St.ev,aaB] at hx;subst hx;exact .clo f [] [] J (fun j d hd=>by simp at hd)
             | global gl=>cases hx)
           rw[hsame.2] at hy;unfold sM at hy;unfold Oper.wp;generalize (execOp a.eval o').run P w=r at *
           match r,hy with
           | .ok (.value v) w', hy =>
             simp only[Oper.upon];exact finish v w' hy.1 hy.2
           | .ok (.enter f args) w', hy =>
             obtain⟨rfl,hcl⟩:=hy;simp only[Oper.upon];refine hcl.mono fun e w'' ⟨v,he,hb,hv⟩=>?_
             subst he;exact finish v w'' hb hv
       · -- the first that writes
         rcases hend with⟨h1,_⟩|⟨h1,hend⟩
         · omega
         · have ⟨htl, hq⟩ : fC ops k = true ∧ rU P w0 M0 ops Q k (S k) := by
             rcases hend with⟨htl,hq⟩|h
             · exact⟨zE htl,fun f L a w hL hiff hs hf=>LS hlt htl f k L a w (S k) hL hiff (aaD _) hks (by simpa using hq) hs hf⟩
             · exact h
           have hallk:∀j,j<k→L.getD j false=true:=by
             intro j hj;have htl':=htl;unfold fC at htl';rw[aa5] at htl';have h2:=htl' i (aba.2 his);rw[abC] at h2;rcases h2 with h2|h2
             · have : i < k := by simpa using h2
               omega
             · rw [aa5] at h2
               exact e8 hc ops.size i o ho hpre hlt j (abv.1 (h2 j (aba.2 adh)))
           have Yx:pv P w0 M0 (S k) a w:=⟨E,full L a w E hM hallk⟩;have hiff:∀j,j<ops.size→(L.getD j false=true↔j<k):=fun j hj=>⟨fun h=>(by
             rcases aa9 j k with h'|h'
             · exact h'
             · rw[hk j h'] at h;cases h),hallk j⟩
           have hleft:ops.size-k≤fuel+1:=by
             have h3:(List.range ops.size).filter (fun j=>!L.getD j false)=(List.range ops.size).filter (fun j=>decide (k≤j)):=by
               apply ada;intro j hj;have hj':=aba.1 hj;cases hv:L.getD j false
               · have : ¬ j < k := fun h => by rw [(hiff j hj').2 h] at hv; cases hv
                 simp;omega
               · have := (hiff j hj').1 hv
                 simp;omega
             rw[h3] at hfu;have h4:∀n,((List.range n).filter (fun j=>decide (k≤j))).length=n-k:=by
               intro n
               induction n with
               | zero=>simp
               | succ n ihn =>
                 rw[abB,abG,aaM,ihn];by_cases hkn:k≤n
                 · simp[hkn];omega
                 · simp[hkn];omega
             rw[h4] at hfu;omega
           have:=hq (fuel+1) L a w hL hiff Yx hleft;exact this.2 i hi
 rintro a w ⟨E,hs⟩;have h0:=main ops.size (Array.replicate ops.size false) a { w with drawn:=w.drawn+1 } E (by simp) (fun i o ho hL=>by
     have his:=(abn.1 ho).1;simp[his] at hL) (fun j hj=>by
     rcases aa9 j ops.size with h|h<;>simp[h]) (by
     have hw:bD w0.dr w.heap.size w { w with drawn:=w.drawn+1 }:=(Below.refl _ _).drew;have hs':=hs.grow hw;rw[←hS] at hs';refine⟨hs'.size,hs'.defers,hs'.wok,fun j hj hL=>?_,fun t d ht _=>hs'.slots t d ht⟩;exfalso;have:j<ops.size:=adh;simp[this] at hL) (by
     have:=abT (fun j=>!(Array.replicate ops.size false).getD j false) (List.range ops.size);simpa using this)
 refine iU (l6 hm sO h0) fun e a' w' ⟨he,s',h1,h2⟩=>?_
 subst he;exact⟨s',hQ s' h1,h2⟩
end
abbrev int (n:Int):AV:=.sc (.int .i64 n)
abbrev bool (b:Bool):AV:=.sc (.bool b)
abbrev ints (l:List Int):AV:=.sl (l.map int)
abbrev nC (l:List (List Int)):AV:=.sl (l.map ints)
theorem wrap64 {x:Int}(h:-9223372036854775808≤x)(h':x≤9223372036854775807):IntKind.i64.wrap x=x:=IntWalk.i64_in x ⟨h,h'⟩
section
variable {P:Program} {w0:Fr}{M0:Nat→Prop}
def kn (P:Program)(w0:Fr)(M0:Nat→Prop)(ops:Array Oper)(Q:St→Prop):List Oper→St→Prop
 | [],s=>∃s1,fm P w0 M0 s s1∧Q s1
 | o :: rest,s=>∃s1,fm P w0 M0 s s1∧∃s',((guardOf ops s1.ev o=some true∧Step P w0 M0 o s1 s')∨(guardOf ops s1.ev o=some false∧∃t,o.dst=some t∧t<s1.n∧s'=s1.put t (.v .pl (.tup []))))∧kn P w0 M0 ops Q rest s'
variable {ops:Array Oper}{Q:St→Prop}{s s':St}{o:Oper}{rest:List Oper}{t:Nat}{d:SV}
theorem ru:∀ (l:List Oper)(k:Nat)(s:St),(∀j,l[j]?=ops[k+j]?)→kn P w0 M0 ops Q l s→vp P w0 M0 ops (List.range' k l.length) s Q
 | [], k, s, _, h => by
   obtain⟨s1,hi,hq⟩:=h;exact fun a w hs=>H4 hq a w (hi a w hs)
 | o :: rest, k, s, hl, h => by
   obtain⟨s1,hi,s',h1,h2⟩:=h;have ho:ops[k]?=some o:=by have:=hl 0;simpa using this.symm
   have ih:=ru rest (k+1) s' (fun j=>by have:=hl (j+1);rw[abY] at this;rw[this];congr 1;omega) h2;rw[aaE,List.range'_succ];rcases h1 with⟨hg,hs⟩|⟨hg,t,ht,hn,rfl⟩
   · exact fun a w hsim=>DA ho hg hs ih a w (hi a w hsim)
   · exact fun a w hsim=>DC ho hg ht hn ih a w (hi a w hsim)
theorem kn.imp {l:List Oper}(hi:fm P w0 M0 s s')(h:kn P w0 M0 ops Q l s'):kn P w0 M0 ops Q l s:=by
 cases l with
 | nil=>obtain⟨s1,h1,h2⟩:=h;exact⟨s1,hi.trans h1,h2⟩
 | cons o r=>obtain⟨s1,h1,h2⟩:=h;exact⟨s1,hi.trans h1,h2⟩
def Sub (s1 s:St):Prop:=s1.n=s.n∧s1.o=s.o∧∀t d,s1.s.lookup t=some d→s.s.lookup t=some d
theorem Sub.refl (s:St):Sub s s:=⟨rfl,rfl,fun _ _ h=>h⟩
theorem Sub.trans {a b c:St}(h:Sub a b)(h':Sub b c):Sub a c:=⟨h.1.trans h'.1,h.2.1.trans h'.2.1,fun t d hd=>h'.2.2 t d (h.2.2 t d hd)⟩
theorem Sub.put {a b:St}(h:Sub a b)(t:Nat)(d:SV):Sub (a.put t d) (b.put t d):=⟨h.1,h.2.1,fun u e he=>by
 simp only[St.put] at he ⊢;rw[aC] at he ⊢;by_cases hu:u=t
 ·rw[if_pos hu] at he ⊢;exact he
 ·rw[if_neg hu] at he ⊢;exact h.2.2 u e he⟩
theorem Sub.imp {a b:St}(h:Sub a b):fm P w0 M0 b a:=eW h.1 h.2.1 h.2.2
theorem Sub.ev {a b:St}(h:Sub a b){x:Operand}{d:SV}(hx:a.ev x=some d):b.ev x=some d:=by
 cases x with
 | tmp t=>exact h.2.2 t d hx
 | const v=>exact hx
 | func f=>exact hx
 | global g=>exact hx
theorem Sub.guard {a b:St}(h:Sub a b){o:Oper}{g:Bool}(hg:guardOf ops a.ev o=some g):guardOf ops b.ev o=some g:=by
 unfold guardOf at hg ⊢;cases h0:o.guard with
 | none=>simp only[h0] at hg ⊢;exact hg
 | some jw =>
   obtain⟨j,want⟩:=jw;simp only[h0] at hg ⊢;cases ht:(ops[j]?).bind (·.dst) with
   | none=>simp only[ht] at hg;cases hg
   | some t =>
     simp only[ht] at hg ⊢;split at hg
     · rename_i c q hq;simp only[h.ev hq];exact hg
     · rename_i c hq;simp only[h.ev hq];exact hg
     · cases hg
theorem Sub.pure {a b:St}(h:Sub a b){o:Oper}{d:SV}(hp:Pure P w0 M0 o (fx ops o a.ev) a.o d):Pure P w0 M0 o (fx ops o b.ev) b.o d:=by
 intro E w ev hw hx;rw[←h.2.1] at hw;have:=hp E w ev hw (fun x e he=>by
   rw[h.2.1];refine hx x e ?_;cases x with
   | tmp t =>
     by_cases hc:(looks ops o).contains t=true
     · simp only[fx,hc,if_true] at he ⊢;exact h.ev he
     · simp only[fx,hc] at he;cases he
   | const v=>exact he
   | func f=>exact he
   | global g=>exact he)
 rwa [h.2.1] at this
theorem rU.imp {Q:St→Prop}{m:Nat}{s s':St}(hi:fm P w0 M0 s' s)(he:rU P w0 M0 ops Q m s):rU P w0 M0 ops Q m s' :=
 fun f L a w hL hiff hs hf=>he f L a w hL hiff (hi a w hs) hf
def kg (P:Program)(w0:Fr)(M0:Nat→Prop)(ops:Array Oper)(Q:St→Prop):List Oper→Nat→St→Prop
 | [],_,s=>∃s1,Sub s1 s∧Q s1
 | o :: rest, i, s => ∃ s1, Sub s1 s ∧
   ((∃t,o.dst=some t∧t<s1.n∧∃g,guardOf ops s1.ev o=some g∧∃d,(g=true→Pure P w0 M0 o (fx ops o s1.ev) s1.o d)∧(g=false→d=.v .pl (.tup []))∧kg P w0 M0 ops Q rest (i+1) (s1.put t d)) ∨
   (px ops i=true∧l8 P w0 M0 Q (o :: rest) s1)∨(fC ops i=true∧rU P w0 M0 ops (fun s=>∃s',fm P w0 M0 s s'∧Q s') i s1))
theorem py:∀ (l:List Oper)(i:Nat)(s1 s:St),Sub s1 s→kg P w0 M0 ops Q l i s1→H7 P w0 M0 ops (fun s=>∃s',fm P w0 M0 s s'∧Q s') l i s
 | [],i,s1,s,hs,⟨s2,h2,hq⟩=>⟨s2,(h2.trans hs).imp,hq⟩
 | o :: rest, i, s1, s, hs, ⟨s2, h2, h⟩ => by
   have hs2:=h2.trans hs;rcases h with⟨t,ht,hn,g,hg,d,h1,h0,hr⟩|⟨htl,hg,s',hst,hq⟩|⟨htl,hq⟩
   · exact .inl ⟨t,ht,by rw[←hs2.1];exact hn,g,hs2.guard hg,d,fun h=>hs2.pure (h1 h),h0,py rest (i+1) _ _ (hs2.put t d) hr⟩
   · exact .inr (.inl ⟨htl,hg,s',fun a w Q hsim=>hst a w Q (hs2.imp a w hsim),hq.mono fun s'' h=>⟨s'',fm.refl _,h⟩⟩)
   · exact .inr (.inr ⟨htl,hq.imp hs2.imp⟩)
theorem LU {id:Nat}{Q':Exit→St→Prop}(l:List Oper)(hl:ops.toList=l)(h:kn P w0 M0 ops (Q' .normal) l s):aw P w0 M0 (.region id ops false) s Q':=by subst hl;refine DE _ J ?_;have:=ru ops.toList 0 s (fun j=>by simp) h;rwa [acB,←List.range_eq_range'] at this
theorem uh {id:Nat}{Q':Exit→St→Prop}(hm:P.follows .mixedOrders=true)(hok:l7 ops=true)(l:List Oper)(hl:ops.toList=l)(h:kg P w0 M0 ops (Q' .normal) l 0 s):aw P w0 M0 (.region id ops true) s Q':=by
 subst hl;have:=wb (id:=id) hm hok (py _ _ _ _ (Sub.refl s) h) (Q':=fun e s=>match e with|.normal=>∃s',fm P w0 M0 s s'∧Q' .normal s'|_=>False) (fun s h=>h);intro a w hsim;refine iU (this a w hsim) fun e a' w' ⟨s',h1,h2⟩=>?_
 cases e with
 | normal=>obtain⟨s2,hi,hq⟩:=h1;exact⟨s2,hq,hi a' w' h2⟩
 | _=>exact h1.elim
theorem Th (h:Q s):kn P w0 M0 ops Q [] s:=⟨s,fm.refl _,h⟩
theorem JF (hg:guardOf ops s.ev o=some false)(ht:o.dst=some t)(hn:Nat.blt t s.n=true)(hr:kn P w0 M0 ops Q rest (s.put t (.v .pl (.tup [])))):kn P w0 M0 ops Q (o :: rest) s :=
 ⟨s,fm.refl _,_,.inr ⟨hg,t,ht,by simpa using hn,rfl⟩,hr⟩
variable {i:Nat}
theorem Ti (h:Q s):kg P w0 M0 ops Q [] i s:=⟨s,Sub.refl _,h⟩
theorem b8 (ht:px ops i=true)(h:l8 P w0 M0 Q (o :: rest) s):kg P w0 M0 ops Q (o :: rest) i s:=⟨s,Sub.refl _,.inr (.inl ⟨ht,h⟩)⟩
theorem BR (ht:fC ops i=true)(h:rU P w0 M0 ops (fun s=>∃s',fm P w0 M0 s s'∧Q s') i s):kg P w0 M0 ops Q (o :: rest) i s:=⟨s,Sub.refl _,.inr (.inr ⟨ht,h⟩)⟩
theorem cB {s':St}(hg:o.guard=none)(h:Step P w0 M0 o s s')(hr:l8 P w0 M0 Q rest s'):l8 P w0 M0 Q (o :: rest) s:=⟨hg,s',h,hr⟩
theorem sQ (hg:o.guard=none)(ht:o.dst=some t)(hn:Nat.blt t s.n=true)(h:Pure P w0 M0 o s.ev s.o d)(hr:l8 P w0 M0 Q rest (s.put t d)):l8 P w0 M0 Q (o :: rest) s :=
 ⟨hg,_,lQ ht (by simpa using hn) h,hr⟩
theorem dN (h:Q s):l8 P w0 M0 Q [] s:=h
theorem JG (hg:guardOf ops s.ev o=some false)(ht:o.dst=some t)(hn:Nat.blt t s.n=true)(hr:kg P w0 M0 ops Q rest (i+1) (s.put t (.v .pl (.tup [])))):kg P w0 M0 ops Q (o :: rest) i s :=
 ⟨s,Sub.refl _,.inl ⟨t,ht,by simpa using hn,false,hg,_,fun h=>(by cases h),fun _=>rfl,hr⟩⟩
def Has (s:St):List (Nat×SV)→Prop
 | []=>True
 | (t,d) :: r=>s.s.lookup t=some d∧Has s r
def wc (s:St):List (Nat×Ob)→Prop
 | []=>True
 | (t,d) :: r=>s.o.lookup t=some d∧wc s r
theorem Has.out {s:St}:∀{l:List (Nat×SV)},Has s l→∀t d,l.lookup t=some d→s.s.lookup t=some d
 | [],_,t,d,h=>by simp at h
 | (u, e) :: r, h, t, d, hl => by
   rw[aq] at hl;split at hl
   · rename_i he
     subst he;simp only[aaB] at hl;subst hl;exact h.1
   · exact Has.out h.2 t d hl
theorem wc.out {s:St}:∀{l:List (Nat×Ob)},wc s l→∀t d,l.lookup t=some d→s.o.lookup t=some d
 | [],_,t,d,h=>by simp at h
 | (u, e) :: r, h, t, d, hl => by
   rw[aq] at hl;split at hl
   · rename_i he
     subst he;simp only[aaB] at hl;subst hl;exact h.1
   · exact wc.out h.2 t d hl
theorem dW {own own':Nat→Prop}(h:∀b,own' b→own b)(c:fX):∀b,cI M0 own' c b→cI M0 own c b:=by
 intro b hb;cases c with
 | pl=>exact hb.imp id (h b)
 | mx=>exact h b hb
 | vw=>exact hb
theorem bm.mN {w:World}{o:List (Nat×Ob)}(h:∀id ob,o'.lookup id=some ob→o.lookup id=some ob){d:SV}(hv:bm P M0 w E o v d):bm P M0 w E o' v d:=by
 have hown:∀b,owned E o' b→owned E o b:=fun b ⟨id,ob,h1,h2⟩=>⟨id,ob,h id ob h1,h2⟩
 cases d with
 | v c d=>exact bL.cm hv (dW hown c)
 | own id=>exact fun e xs hl=>hv e xs (h _ _ hl)
 | pel id i off=>exact fun e xs hl=>hv e xs (h _ _ hl)
 | pbox id off=>exact fun e xs hl=>hv e xs (h _ _ hl)
 | omap id=>exact fun e xs hl=>hv e xs (h _ _ hl)
 | vsl id i n=>exact fun e xs hl=>hv e xs (h _ _ hl)
 | fn f caps =>
   obtain⟨vs,h1,h2,h3⟩:=hv;refine⟨vs,h1,h2,fun j c hc=>?_⟩;have:=h3 j c hc;cases c with
   | bx id=>exact fun e cs hl=>this e cs (h _ _ hl)
   | pl d=>exact bL.cm this (dW hown .pl)
   | ow id=>exact fun e xs hl=>this e xs (h _ _ hl)
   | om id=>exact fun e xs hl=>this e xs (h _ _ hl)
 | hid f caps =>
   obtain⟨vs,h1,h2,h3⟩:=hv;refine⟨vs,h1,h2,fun j c hc=>?_⟩;have:=h3 j c hc;cases c with
   | bx id=>exact fun e cs hl=>this e cs (h _ _ hl)
   | pl d=>exact bL.cm this (dW hown .pl)
   | ow id=>exact fun e xs hl=>this e xs (h _ _ hl)
   | om id=>exact fun e xs hl=>this e xs (h _ _ hl)
 | nst id=>exact⟨fun e xs ln hl=>hv.1 e xs ln (h _ _ hl),fun e xs ln hl=>hv.2 e xs ln (h _ _ hl)⟩
 | nel id j=>exact fun e xs ln hl=>hv e xs ln (h _ _ hl)
 | dead=>trivial
theorem sR {s:St}{l:List (Nat×SV)}(hl:Has s l)(ho:wc s o'):fm P w0 M0 s ⟨s.n,l,o'⟩:=by
 rintro a w ⟨E,hs⟩;have ho':=ho.out;have hown:∀b,owned E o' b→owned E s.o b:=fun b ⟨id,ob,h1,h2⟩=>⟨id,ob,ho' id ob h1,h2⟩
 refine⟨E,hs.size,hs.defers,fun t d ht=>?_,fun id ob hid=>?_,fun id ob id' ob' b h1 h2=>hs.wok.disj id ob id' ob' b (ho' _ _ h1) (ho' _ _ h2),hs.wok.below,hs.wok.pins⟩
 · have := hs.slots t d (hl.out t d ht)
   exact⟨this.1,this.2.mN ho'⟩
 · have := hs.wok.objs id ob (ho' id ob hid)
   cases ob with
   | arr e xs =>
     obtain⟨vals,h1,h2,h3⟩:=this;exact⟨vals,h1,h2,fun j d hd=>⟨(h3 j d hd).1,(h3 j d hd).2.cm (dW hown .pl)⟩⟩
   | box e cs =>
     obtain⟨vals,h1,h2,h3,h4⟩:=this;exact⟨vals,h1,h2,h3,fun j sv hj=>⟨(h4 j sv hj).1,(h4 j sv hj).2.1,(h4 j sv hj).2.2.mN ho'⟩⟩
   | mp ks vs =>
     obtain⟨es,clock,h1,h2,h3,h4,h5⟩:=this;exact⟨es,clock,h1,h2,h3,h4,fun j d hd=>(h5 j d hd).cm (dW hown .pl)⟩
   | nar e cs ln =>
     obtain⟨n,vals,h1,h2,h3,h4,h5⟩:=this;exact⟨n,vals,h1,h2,h3,h4.cm hown,h5⟩
   | nmp ks cs ln =>
     obtain⟨es,clock,h1,h2,h3,h4,h5,h6,h7⟩:=this;exact⟨es,clock,h1,h2,h3,h4,h5,h6.cm hown,h7⟩
theorem P0 {l':List Oper}{i:Nat}(n:Nat)(l:List (Nat×SV))(o':List (Nat×Ob))(hn:s.n=n)(ho:s.o=o')(hl:Has s l)(h:kg P w0 M0 ops Q l' i ⟨n,l,o'⟩):kg P w0 M0 ops Q l' i s:=by
 subst hn;subst ho;have hsub:Sub ⟨s.n,l,s.o⟩ s:=⟨rfl,rfl,hl.out⟩;cases l' with
 | nil=>obtain⟨s1,h1,h2⟩:=h;exact⟨s1,h1.trans hsub,h2⟩
 | cons o r=>obtain⟨s1,h1,h2⟩:=h;exact⟨s1,h1.trans hsub,h2⟩
def LV (P:Program)(w0:Fr)(M0:Nat→Prop)(I:Nat→St→Prop)(m:Nat)(Q:Exit→St→Prop):Exit→St→Prop
 | .normal,s=>∃m' s',fm P w0 M0 s s'∧I m' s'∧m'<m
 | e,s=>Q e s
theorem Gn {c:Code}{Q:Exit→St→Prop}(I:Nat→St→Prop)(h0:∃m s',fm P w0 M0 s s'∧I m s')(hr:∀m s,I m s→aw P w0 M0 c s (LV P w0 M0 I m Q)):aw P w0 M0 (.loop c) s Q:=by
 intro a w hs;obtain⟨m1,s1,hi,hI⟩:=h0;have key : ∀ n m s a w, I m s → m < n → pv P w0 M0 s a w → ot P w0.md c (fun e a' w' => ∃ s', Q e s' ∧ pv P w0 M0 s' a' w') n a w := by
   intro n
   induction n with
   | zero=>intro m s a w _ h;omega
   | succ n ih =>
     intro m s a w hI hlt hs;rw[BP];refine iU (hr m s hI a w hs) fun e a' w' ⟨s',h1,h2⟩=>?_
     cases e<;>simp only[Exit.then,LV] at h1 ⊢ <;>
       first
       | exact⟨s',h1,h2⟩
       | (obtain ⟨m2, s2, hi2, hI2, hlt2⟩ := h1
          exact ih m2 s2 a' w' hI2 adh (hi2 a' w' h2))
 exact wa (m1+1) (key _ m1 s1 a w hI adh (hi a w hs))
section ops2
variable {ρ:Operand→Option SV}{ob:List (Nat×Ob)}{x y:Operand}{T T':TypeId}{a b:Int}{c:fX}
theorem ey (ho:o.op=.binOp .add T x y T')(hx:bg ρ x=some (.int .i64 a))(hy:bg ρ y=some (.int .i64 b))(h:-9223372036854775808≤a+b∧a+b≤9223372036854775807):Pure P w0 M0 o ρ ob (.v .pl (int (a+b))):=by have:=LC (P:=P) (w0:=w0) (M0:=M0) (ob:=ob) ho hx hy;rwa [wrap64 h.1 h.2] at this
theorem qy (ho:o.op=.binOp .sub T x y T')(hx:bg ρ x=some (.int .i64 a))(hy:bg ρ y=some (.int .i64 b))(h:-9223372036854775808≤a-b∧a-b≤9223372036854775807):Pure P w0 M0 o ρ ob (.v .pl (int (a-b))):=by have:=LD (P:=P) (w0:=w0) (M0:=M0) (ob:=ob) ho hx hy;rwa [wrap64 h.1 h.2] at this
theorem JH (ho:o.op=.binOp .mul T x y T')(hx:bg ρ x=some (.int .i64 a))(hy:bg ρ y=some (.int .i64 b))(h:-9223372036854775808≤a*b∧a*b≤9223372036854775807):Pure P w0 M0 o ρ ob (.v .pl (int (a*b))):=by have:=LF (P:=P) (w0:=w0) (M0:=M0) (ob:=ob) ho hx hy;rwa [wrap64 h.1 h.2] at this
theorem pz  [Inhabited α]{f:α→AV}{l:List α}{e:TypeId}{k:Nat}{q:IntKind}{i:Int}(ho:o.op=.indexAddr T x y)(hT:P.underlying T=some (.slice e))(hk:bX P e=some k)
  (hx:viewAt ρ ob x=some (c,.sl (l.map f)))(hy:bg ρ y=some (.int q i))(h:0≤i∧i<l.length)(hc:∀z,(AV.cells (f z)).length=k) :
  Pure P w0 M0 o ρ ob (.v c (.pc (AV.cells (f (l.getD i.toNat default))) 0)) :=
 Gg ho hT hk hx hy h.1 (by rw[aaI,aax,aaF adh];rfl) (hc _)
end ops2
end
section
variable {P:Program} {w0:Fr}{M0:Nat→Prop}{s:St}{Q:Exit→St→Prop}{y:Code}{id i:Nat}{I:Nat→St→Prop}{m:Nat}
theorem DF (h:Q .normal s):rT id Q (.exit id) s:=by simp only[rT,if_true];exact h
theorem BS (h:Q (.exit i) s)(hne:Nat.beq i id=false):rT id Q (.exit i) s:=by
 have:i≠id:=by rintro rfl;simp at hne
 simp only[rT,this,if_false];exact h
theorem DG {x y:Code}{t:Nat}{Q:Exit→St→Prop}(hb:bg s.ev (.tmp t)=some (.bool true))(h:aw P w0 M0 x s Q):aw P w0 M0 (.cond (.tmp t) x y) s Q:=Ae hb (fun _=>h) (fun h=>by cases h)
theorem DH {x y:Code}{t:Nat}{Q:Exit→St→Prop}(hb:bg s.ev (.tmp t)=some (.bool false))(h:aw P w0 M0 y s Q):aw P w0 M0 (.cond (.tmp t) x y) s Q:=Ae hb (fun h=>by cases h) (fun _=>h)
theorem P1 {t:Nat}{r r':RV}(h:(s.s.lookup t).bind (bT s.o)=some r')(hr:r'=r):zB t r .ret s:=by subst hr;exact h
end
end Go.Am
