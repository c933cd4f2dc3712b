/-
  Part of the proof.
-/
import Derived.WalkKit
import Derived.Below
import Derived.WalkSpells
import Derived.WalkLawsBesides
set_option linter.unusedVariables false
set_option linter.unusedSectionVars false
set_option linter.unusedSimpArgs false
set_option maxRecDepth 100000
set_option maxHeartbeats 40000000
abbrev aag:=@List.getD_eq_getElem?_getD
abbrev aah:=@Nat.le_of_ble_eq_true
abbrev aai:=@List.length_map
abbrev aaj:=@Option.some.injEq
abbrev aak:=@Nat.le_refl
abbrev aal:=@List.getElem?_eq_getElem
abbrev aam:=@List.length_cons
abbrev aan:=@Nat.zero_le
abbrev aao:=@Option.map_eq_some_iff
abbrev aap:=@List.getElem?_map
abbrev aaq:=@List.mem_cons_self
abbrev aar:=@List.length_append
abbrev aas:=@List.map_append
abbrev aat:=@List.length_nil
abbrev aau:=@List.length_take
abbrev aav:=@List.mem_cons_of_mem
abbrev aaw:=@List.length_drop
abbrev aax:=@Bool.and_eq_true
abbrev aay:=@List.mem_singleton
abbrev aaz:=@List.getElem?_eq_some_iff
abbrev aaA:=@List.length_range
abbrev aaB:=@List.take_of_length_le
abbrev aaC:=@List.mem_cons
abbrev aaD:=@List.eq_nil_of_length_eq_zero
abbrev aaE:=@List.getElem?_append_right
abbrev aaF:=@List.all_eq_true
abbrev aaG:=@List.mem_map
abbrev aaH:=@List.getElem?_append_left
abbrev aaI:=@List.mem_range
abbrev aaK:=@Nat.lt_or_ge
abbrev aaL:=@Array.getD_eq_getD_getElem?
abbrev aaM:=@Array.getElem?_eq_getElem
abbrev aaN:=@List.getElem?_cons_zero
abbrev aaO:=@Nat.le_trans
abbrev aaP:=@List.append_nil
abbrev aaQ:=@List.any_eq_true
abbrev aaR:=@List.getElem?_eq_none
abbrev aaS:=@Array.getElem?_toList
abbrev aaT:=@Nat.lt_of_lt_of_le
abbrev aaU:=@List.mem_append
abbrev aaV:=@Array.getElem?_eq_some_iff
abbrev aaW:=@List.mem_of_getElem?
abbrev aaX:=@List.length_reverse
abbrev aaY:=@List.append_assoc
abbrev aaZ:=@List.length_singleton
abbrev aa0:=@List.mem_of_mem_drop
abbrev aa1:=@List.getElem?_take
abbrev aa2:=@List.pairwise_cons
abbrev aa3:=@Option.map_some
abbrev aa4:=@List.contains_iff_mem
abbrev aa5:=@Bool.not_eq_true'
abbrev aa6:=@List.map_cons
abbrev aa7:=@Nat.eq_of_beq_eq_true
abbrev aa8:=@List.range_succ
abbrev aa9:=@List.mem_filter
abbrev aba:=@Bool.or_eq_true
abbrev abb:=@List.filter_cons
abbrev abc:=@Option.bind_eq_some_iff
abbrev abd:=@List.getElem_of_mem
abbrev abe:=@List.ext_getElem?
abbrev abf:=@Nat.le_of_lt_succ
abbrev abg:=@Nat.zero_add
abbrev abh:=@List.drop_of_length_le
abbrev abi:=@Ne.symm
abbrev abj:=@List.take_length
abbrev abk:=@Prod.mk.injEq
abbrev abl:=@Nat.mul_le_mul_right
abbrev abm:=@Bool.true_and
abbrev abn:=@List.take_append_drop
abbrev abo:=@List.length_replicate
abbrev abp:=@List.getElem_mem
abbrev abq:=@List.filter_append
abbrev abr:=@List.getElem?_range
abbrev abt:=@List.flatMap_cons
abbrev abu:=@List.map_nil
abbrev abv:=@List.mem_of_mem_take
abbrev abw:=@List.getElem?_cons_succ
abbrev abx:=@List.length_filter_le
abbrev aby:=@Nat.eq_zero_or_pos
abbrev abz:=@List.nil_append
abbrev abA:=@List.length_pos_iff_exists_mem
abbrev abB:=@List.foldl_append
abbrev abC:=@Int.toNat_natCast
abbrev abD:=@Bool.false_and
abbrev abE:=@List.getElem?_drop
abbrev abF:=@List.drop_eq_getElem_cons
abbrev abG:=@Bool.and_false
abbrev abH:=@List.any_eq_false
abbrev abI:=@List.getElem?_set_self
abbrev abJ:=@Nat.mul_one
abbrev abK:=@List.contains_eq_mem
abbrev abL:=@List.getElem?_set_ne
abbrev abM:=@List.reverse_reverse
abbrev abN:=@List.cons_append
abbrev abO:=@Option.bind_some
abbrev abP:=@List.mem_flatMap
abbrev abQ:=@List.getElem?_replicate
abbrev abR:=@List.pairwise_singleton
abbrev abS:=@Array.getElem?_append_left
abbrev abT:=@List.mem_of_find?_eq_some
abbrev abU:=@Bool.eq_iff_iff
abbrev abV:=@List.filter_nil
abbrev abW:=@List.length_pos_of_mem
abbrev abX:=@List.pairwise_iff_getElem
abbrev abY:=@List.mem_append_right
abbrev abZ:=@List.cons.inj
abbrev ab0:=@List.mem_append_left
abbrev ab1:=@Array.ext'
abbrev ab2:=@List.filter_cons_of_neg
abbrev ab3:=@List.length_set
abbrev ab4:=@List.foldl_cons
abbrev ab5:=@Array.length_toList
abbrev ab6:=@List.flatMap_append
abbrev ab7:=@Nat.sub_zero
abbrev ab8:=@Nat.beq_refl
abbrev ab9:=@Array.getElem?_eq_none
abbrev aca:=@List.not_mem_nil
abbrev acb:=@List.findIdx_lt_length_of_exists
abbrev acd:=@List.getElem_map
abbrev ace:=@Option.getD_some
abbrev acf:=@Bool.false_eq_true
abbrev acg:=@Nat.add_mul
abbrev ach:=@Nat.sub_self
abbrev aci:=@List.eq_of_mem_replicate
abbrev acj:=@Nat.lt_of_succ_le
abbrev ack:=@List.filter_cons_of_pos
abbrev acm:=@List.mem_map_of_mem
abbrev acn:=@Nat.le_of_not_lt
abbrev aco:=@List.map_map
abbrev acp:=@List.mergeSort_nil
abbrev acq:=@Nat.min_eq_left
abbrev acr:=@List.any_append
abbrev acs:=@List.pairwise_map
abbrev acu:=@Array.toList_map
abbrev acv:=@Nat.mul_comm
abbrev acw:=@Nat.succ_mul
abbrev acx:=@List.filter_eq_self
abbrev acy:=@List.replicate_succ
abbrev acz:=@List.map_congr_left
abbrev acA:=@Bool.false_or
abbrev acB:=@List.find?_eq_none
abbrev acC:=@List.cons.injEq
abbrev acD:=@List.map_singleton
abbrev acE:=@Nat.not_lt_zero
abbrev acF:=@Int.emod_lt_of_pos
abbrev acG:=@Function.comp_def
abbrev acH:=@List.Pairwise.imp
abbrev acI:=@List.size_toArray
abbrev acJ:=@List.take_zero
theorem acK {p:Prop}(h:p:=by omega):p:=h
theorem acL {p:Prop}(h:p:=by kernel_rfl):p:=h
theorem acM {p:Prop}(h:p:=by decide):p:=h
theorem acN {p:Prop}(h:p:=by assumption):p:=h
namespace Go.Am
open Go.RowKit
theorem drawn_setCell (w:World)(a:Addr)(v:Value):(w.setCell a v).drawn=w.drawn:=by unfold World.setCell;split<;>rfl
theorem BB (w:World)(a:Addr)(n:Nat):(w.freeze a n).drawn=w.drawn:=by unfold World.freeze;split<;>rfl
theorem Je {α:Type}:∀(q:Ask α)(w:World),w.drawn≤(w.ask q).2.drawn:=by
 intro q
 induction q with
 | done a=>intro w;exact aak _
 | ask what range k ih =>
   intro w;unfold World.ask;simp only[];split
   · exact ih _ _
   · exact aaO (Nat.le_succ _) (ih _ { w with drawn:=w.drawn+1 })
theorem Jf (w:World)(c:Sys):w.drawn≤(w.sys c).2.drawn:=by
 have:=Je (Kernel.perform c w.os) w;unfold World.sys;split
 ·exact aak _
 ·rename_i h;rw[h] at this;exact this
variable{w w':World}{v:Value}
theorem xb {p:Program}{a:Addr}{b:Bool}{l:List Addr}(h:w.farStore p a v b=.ok (w',l)):w'.drawn=w.drawn:=by
 unfold World.farStore at h;split at h
 ·split at h
  ·simp only[Except.ok.injEq] at h;subst h;rename_i r hr;unfold World.viewStore at hr;simp only[bind,Except.bind,pure,Except.pure] at hr
   (repeat' (split at hr))<;>first|(cases hr;done)|(cases hr;rfl)
  ·cases h
 ·cases h
theorem lQ {α:Type}{P:Program}:∀(m:Sem α)(w:World)(v:α)(w':World),m.run P w=.ok v w'→w.drawn≤w'.drawn:=by
 intro m
 induction m with
 | pure a=>intro w v w' h;simp only[Sem.run,Result.ok.injEq] at h;rw[h.2];exact aak _
 | load md a k ih =>
   intro w v w' h;simp only[Sem.run] at h;split at h
   · exact ih _ _ _ _ h
   · split at h
     · exact ih _ _ _ _ h
     · cases h
 | store md a u k ih =>
   intro w v w' h;have key:∀q:Result α,q=.ok v w'→q=(match w.cell? a with
       | some _ => if w.frozen? a then Result.halt (.unsupported (.unsafePointer "a write to bytes that a string shares")) w else k.run P (w.setCell a u)
       | none => match w.farStore P a u (md == .atomic) with
         | .ok (w,_)=>k.run P w
         | .error h=>.halt h w)→w.drawn≤w'.drawn:=by
     intro q hq hd;rw[hq] at hd;split at hd
     · split at hd
       · cases hd
       · exact aaO (Nat.le_of_eq (drawn_setCell _ _ _).symm) (ih _ _ _ hd.symm)
     · split at hd
       · rename_i hf
         exact aaO (Nat.le_of_eq (xb hf).symm) (ih _ _ _ hd.symm)
       · cases hd
   cases u<;>first|exact key _ h rfl|(cases h;done)
 | new o k ih=>intro w v w' h;have:=ih _ { w with heap:=w.heap.push o } _ _ h;exact this
 | shape r k ih=>intro w v w' h;exact ih _ _ _ _ h
 | freeze a n k ih=>intro w v w' h;exact aaO (Nat.le_of_eq (BB _ _ _).symm) (ih _ _ _ h)
 | frozen a k ih=>intro w v w' h;exact ih _ _ _ _ h
 | getObj r k ih =>
   intro w v w' h;simp only[Sem.run] at h;split at h
   · cases h
   · exact ih _ _ _ _ h
   · cases h
 | setObj r o k ih =>
   intro w v w' h;simp only[Sem.run] at h;split at h
   · cases h
   · have:=ih { w with heap:=w.heap.setIfInBounds r o } _ _ h;exact this
   · cases h
 | choose q k ih =>
   intro w v w' h;simp only[Sem.run] at h;split at h
   · exact ih _ _ _ _ h
   · have := ih _ _ _ _ h
     simp only at this;omega
 | sys c k ih =>
   intro w v w' h;exact aaO (Jf _ _) (ih _ _ _ _ h)
 | program k ih=>intro w v w' h;exact ih _ _ _ _ h
 | mark m k ih=>intro w v w' h;exact ih _ _ _ h
 | halt x=>intro w v w' h;cases h
theorem J {α : Sort _}{a : α} : a = a := rfl
structure bB (D:Prop)(B:Nat)(w w':World):Prop extends RowKit.Below B w w' where
 drawn:D→w.drawn≤w'.drawn
abbrev Below (B:Nat)(w w':World):Prop:=bB True B w w'
variable{D:Prop}
theorem bB.refl (B:Nat)(w:World):bB D B w w:=⟨.refl _ _,fun _=>aak _⟩
variable{B:Nat}{a:World}
theorem bB.trans {b c:World}(h:bB D B a b)(k:bB D B b c):bB D B a c:=⟨h.toBelow.trans k.toBelow,fun d=>aaO (h.drawn d) (k.drawn d)⟩
theorem bB.drew (h:bB D B a w):bB D B a w.drew:=⟨h.toBelow.drew,fun d=>aaO (h.drawn d) (Nat.le_succ _)⟩
theorem bB.alloc (h:bB D B a w)(hB:B≤w.heap.size)(o:Obj):bB D B a (w.alloc o):=⟨h.toBelow.alloc hB o,h.drawn⟩
theorem bB.less {D':Prop}(h:bB D B w w')(hd:D'→D):bB D' B w w':=⟨h.toBelow,fun d=>h.drawn (hd d)⟩
theorem bB.to (h:bB True B w w'):bB D B w w':=h.less fun _=>trivial
theorem Below.refl (B:Nat)(w:World):bB D B w w:=.refl _ _
inductive Md where
 | plain
 | marks
 | round (l:Nat)
structure Fr where
 w:World
 K:Nat→Prop
 hK:∀b,K b→b<w.heap.size
 pin:List (Nat×Nat)
 hpin:∀x∈pin,1000000≤x.1
 dr:Prop
 md:Md
def Fr.Pv (D:Prop)(w:World):Fr:=⟨w,fun b=>b<w.heap.size,fun _ h=>h,[],(fun x h=>by cases h),D,.plain⟩
abbrev Fr.plain (w0:Fr):Fr:={ w0 with md:=.plain }
abbrev Fr.all (w:World):Fr:=Fr.Pv True w
structure xc (D:Prop)(K:Nat→Prop)(w w':World):Prop where
 os:w'.os=w.os
 tape:w'.tape=w.tape
 output:w'.output=w.output
 size:w.heap.size≤w'.heap.size
 block:∀k,K k→w'.heap[k]?=w.heap[k]?
 drawn:D→w.drawn≤w'.drawn
theorem xc.refl (K:Nat→Prop)(w:World):xc D K w w:=⟨rfl,rfl,rfl,aak _,fun _ _=>rfl,fun _=>aak _⟩
theorem xc.trans {K:Nat→Prop}{b c:World}(h:xc D K a b)(k:xc D K b c):xc D K a c :=
 ⟨k.os.trans h.os,k.tape.trans h.tape,k.output.trans h.output,aaO h.size k.size,fun i hi=>(k.block i hi).trans (h.block i hi),fun d=>aaO (h.drawn d) (k.drawn d)⟩
theorem bB.Pw {K:Nat→Prop}(h:bB D B w w')(hk:∀b,K b→b<B):xc D K w w':=⟨h.os,h.tape,h.output,h.size,fun k hb=>h.block k (hk k hb),h.drawn⟩
theorem xc.below (h:xc D (fun b=>b<B) w w'):bB D B w w':=⟨⟨h.os,h.tape,h.output,h.size,h.block⟩,h.drawn⟩
def mK (w0:Fr)(M0:Nat→Prop)(b:Nat):Prop:=¬w0.K b∧¬M0 b
inductive AV where
 | sc (v:Value)
 | sl (xs:List AV)
 | agg (cs:List AV)
 | tup (vs:List AV)
 | pc (cs:List AV)(off:Nat)
 | clo (fn:FuncId)(caps:List AV)
 | mp (ks:List Value)(vs:List AV)
 deriving Inhabited
def AV.cells:AV→List AV
 | .agg cs=>cs
 | d=>[d]
def AV.leaf:AV→Bool
 | .agg _=>false
 | .tup _=>false
 | _=>true
def flat (xs:List AV):List AV:=xs.flatMap AV.cells
inductive bJ (w:World)(M:Nat→Prop):Value→AV→Prop
 | sc (v:Value)(h:v.oneCell'=true):bJ w M v (.sc v)
 | sl (a:Option Addr)(n cap:Nat)(xs:List AV)(k:Nat)(cv:Nat→Value)(hn:xs.length=n)(hc:n≤cap)(hk:∀x∈xs,(AV.cells x).length=k)
  (hb:0<n→∃b o,a=some ⟨b,o,none⟩∧¬M b∧b<w.heap.size∧∀j,j<n*k→w.cell? ⟨b,o+j,none⟩=some (cv j))
  (hl:∀(j:Nat) d,(flat xs)[j]?=some d→AV.leaf d=true)
  (hr:∀(j:Nat) d,(flat xs)[j]?=some d→bJ w M (cv j) d):bJ w M (.slice a n cap) (.sl xs)
 | agg (vs:List Value)(cs:List AV)(hn:vs.length=cs.length)(hl:∀(j:Nat) d,cs[j]?=some d→AV.leaf d=true)
  (hr:∀(j:Nat) d,cs[j]?=some d→bJ w M (vs.getD j undef) d):bJ w M (.agg vs.toArray) (.agg cs)
 | tup (vs:List Value)(cs:List AV)(hn:vs.length=cs.length)
  (hr:∀(j:Nat) d,cs[j]?=some d→bJ w M (vs.getD j undef) d):bJ w M (.tuple vs.toArray) (.tup cs)
 | pc (b o off:Nat)(cs:List AV)(cv:Nat→Value)(hM:¬M b)(hb:b<w.heap.size)
  (hc:∀j,j<cs.length→w.cell? ⟨b,o+j,none⟩=some (cv j))(hl:∀(j:Nat) d,cs[j]?=some d→AV.leaf d=true)
  (hr:∀(j:Nat) d,cs[j]?=some d→bJ w M (cv j) d):bJ w M (.pointer (some ⟨b,o+off,none⟩)) (.pc cs off)
 | clo (f:FuncId)(vs:List Value)(cs:List AV)(hn:vs.length=cs.length)
  (hr:∀(j:Nat) d,cs[j]?=some d→bJ w M (vs.getD j undef) d):bJ w M (.func (.func f) #[] vs.toArray) (.clo f cs)
 | mp (r:Nat)(es:Array MapEntry)(clock:Nat)(ks:List Value)(vs:List AV)(hM:¬M r)(hb:r<w.heap.size)(hc:w.heap[r]?=some (.map es clock))(hk:es.toList.map (·.key)=ks)(hn:ks.length=vs.length)
  (hr:∀(j:Nat) d,vs[j]?=some d→bJ w M ((es.toList.map (·.val)).getD j undef) d):bJ w M (.map (some r)) (.mp ks vs)
variable{M:Nat→Prop}{d:AV}
theorem bJ.mono {M':Nat→Prop}(h:bJ w M v d)(hs:w.heap.size≤w'.heap.size)
   (hb:∀b,b<w.heap.size→¬M b→w'.heap[b]?=w.heap[b]?)(hM:∀b,b<w.heap.size→¬M b→¬M' b):bJ w' M' v d:=by
 induction h with
 | sc v h=>exact .sc v h
 | sl a n cap xs k cv hn hc hk hbl hl hr ih =>
   refine .sl a n cap xs k cv hn hc hk (fun h0=>?_) hl ih;obtain⟨b,o,e,h1,h2,h3⟩:=hbl h0;exact⟨b,o,e,hM b h2 h1,acK,fun j hj=>(World.cell?_of_block (w:=w) (hb b h2 h1)).trans (h3 j hj)⟩
 | agg vs cs hn hl hr ih=>exact .agg vs cs hn hl ih
 | tup vs cs hn hr ih=>exact .tup vs cs hn ih
 | pc b o off cs cv h1 h2 hc hl hr ih =>
   exact .pc b o off cs cv (hM b h2 h1) acK (fun j hj=>(World.cell?_of_block (w:=w) (hb b h2 h1)).trans (hc j hj)) hl ih
 | clo f vs cs hn hr ih=>exact .clo f vs cs hn ih
 | mp r es clock ks vs h1 h2 hc hk hn hr ih=>exact .mp r es clock ks vs (hM r h2 h1) acK ((hb r h2 h1).trans hc) hk hn ih
theorem bJ.cd {M':Nat→Prop}(h:bJ w M v d)(hM:∀b,M' b→M b):bJ w M' v d :=
 h.mono (aak _) (fun _ _ _=>rfl) (fun b _ h1 h2=>h1 (hM b h2))
theorem bJ.under (h:bJ w M v d)(hb:bB D w.heap.size w w'):bJ w' M v d :=
 h.mono hb.size (fun b hlt _=>hb.block b hlt) (fun _ _ h=>h)
theorem bJ.one (h:bJ w M v d)(hl:d.leaf=true):v.oneCell'=true:=by cases h<;>simp_all [AV.leaf,Value.oneCell']
theorem bJ.cells (h:bJ w M v d)(hd:∀vs,d≠.tup vs) :
   v.cells.size=d.cells.length∧(∀(j:Nat) e,d.cells[j]?=some e→AV.leaf e=true)∧∀(j:Nat) e,d.cells[j]?=some e→bJ w M (v.cells.getD j undef) e:=by
 cases h with
 | sc _ h =>
   refine⟨?_,?_,?_⟩
   · cases v<;>simp_all [Value.cells,AV.cells,Value.oneCell']
   · intro j e he
     cases j with
     | zero=>simp[AV.cells] at he;subst he;rfl
     | succ j=>simp[AV.cells] at he
   · intro j e he
     cases j with
     | zero =>
       simp[AV.cells] at he;subst he;have:v.cells=#[v]:=by cases v<;>simp_all [Value.cells,Value.oneCell']
       rw[this];exact .sc v h
     | succ j=>simp[AV.cells] at he
 | sl a n cap xs k cv hn hc hk hbl hl hr =>
   refine⟨by simp[Value.cells,AV.cells],fun j e he=>?_,fun j e he=>?_⟩<;>cases j<;>simp[AV.cells] at he<;>subst he
   · rfl
   · exact .sl a n cap xs k cv hn hc hk hbl hl hr
 | agg vs cs hn hl hr=>exact⟨by simp[Value.cells,AV.cells,hn],hl,fun j e he=>by simpa[Value.cells] using hr j e he⟩
 | tup vs cs hn hr=>exact absurd rfl (hd _)
 | pc b o off cs cv h1 h2 hc hl hr =>
   refine⟨by simp[Value.cells,AV.cells],fun j e he=>?_,fun j e he=>?_⟩<;>cases j<;>simp[AV.cells] at he<;>subst he
   · rfl
   · exact .pc b o off cs cv h1 h2 hc hl hr
 | clo f vs cs hn hr =>
   refine⟨by simp[Value.cells,AV.cells],fun j e he=>?_,fun j e he=>?_⟩<;>cases j<;>simp[AV.cells] at he<;>subst he
   · rfl
   · exact .clo f vs cs hn hr
 | mp r es clock ks vs h1 h2 hc hk hn hr =>
   refine⟨by simp[Value.cells,AV.cells],fun j e he=>?_,fun j e he=>?_⟩<;>cases j<;>simp[AV.cells] at he<;>subst he
   · rfl
   · exact .mp r es clock ks vs h1 h2 hc hk hn hr
inductive fW where
 | pl|mx|vw
 deriving DecidableEq,Inhabited
inductive qI where
 | bx (id:Nat)
 | pl (d:AV)
 | ow (id:Nat)
 | om (id:Nat)
 deriving Inhabited
inductive SV where
 | v (c:fW)(d:AV)
 | own (id:Nat)
 | pel (id i off:Nat)
 | pbox (id off:Nat)
 | omap (id:Nat)
 | vsl (id i n:Nat)
 | fn (f:FuncId)(caps:List qI)
 | hid (R:Value→List Value→Prop)(caps:List qI)
 | nst (id:Nat)
 | nel (id j:Nat)
 | dead
 deriving Inhabited
inductive Cell where
 | d (x:AV)
 | row (e:TypeId)(xs:List AV)
 | mp (ks:List Value)(vs:List AV)
 deriving Inhabited
inductive dX where
 | no
 | arr (u:Nat)
 | map (u:Nat)
 deriving Inhabited
inductive Ob where
 | arr (e:TypeId)(xs:List AV)
 | box (e:TypeId)(cs:List SV)
 | mp (ks:List Value)(vs:List AV)
 | nar (e:TypeId)(cs:List Cell)(ln:Option (Nat×dX))
 | nmp (ks:List Value)(cs:List Cell)(ln:Option (Nat×dX))
 deriving Inhabited
structure St where
 n:Nat
 s:List (Nat×SV)
 o:List (Nat×Ob)
 deriving Inhabited
structure Env where
 cur:Nat→Value
 blk:Nat→Nat
 sub:Nat→Nat→Value
def SV.leaf:SV→Bool
 | .v _ d=>d.leaf
 | _=>true
def Dg (v:Value)(b:Nat):Cell→Prop
 | .d _=>False
 | .row _ _=>v.ownBlock=some b
 | .mp _ _=>v=.map (some b)
def fX (f:Nat→Value)(b:Nat)(cs:List Cell)(ln:Option (Nat×dX)):Prop:=∃j c,cs[j]?=some c∧ln.map (·.1)≠some j∧Dg (f j) b c
def bE (E:Env)(id:Nat)(b:Nat):Ob→Prop
 | .arr _ _=>(E.cur id).ownBlock=some b
 | .box _ _=>E.blk id=b
 | .mp _ _=>E.blk id=b
 | .nar _ cs ln=>(E.cur id).ownBlock=some b∨fX (E.sub id) b cs ln
 | .nmp _ cs ln=>E.blk id=b∨fX (E.sub id) b cs ln
def owned (E:Env)(o:List (Nat×Ob))(b:Nat):Prop:=∃id ob,o.lookup id=some ob∧bE E id b ob
def cB (M0 own:Nat→Prop):fW→Nat→Prop
 | .pl,b=>M0 b∨own b
 | .mx,b=>own b
 | .vw,_=>False
def Lj (w0:Fr)(M0:Nat→Prop)(w:World)(e:TypeId)(k:Nat)(v:Value)(n:Nat)(xs:List Value):Prop:=w.ownsRow 0 e k v n xs∧∀b,v.ownBlock=some b→mK w0 M0 b
variable{b:Nat}{E:Env}{o o':List (Nat×Ob)}{f:Nat→Value}{cs:List Cell}{ln:Option (Nat×dX)}
section
variable (P:Program) (w0:Fr)(M0:Nat→Prop)
def Dh (w:World)(E:Env)(o:List (Nat×Ob))(v:Value):qI→Prop
 | .bx id=>∀e cs,o.lookup id=some (.box e cs)→v=.pointer (some ⟨E.blk id,0,none⟩)
 | .pl d=>bJ w (cB M0 (owned E o) .pl) v d
 | .ow id=>∀e xs,o.lookup id=some (.arr e xs)→v=E.cur id
 | .om id=>∀ks vs,o.lookup id=some (.mp ks vs)→v=.map (some (E.blk id))
def bm (w:World)(E:Env)(o:List (Nat×Ob))(v:Value):SV→Prop
 | .v c d=>bJ w (cB M0 (owned E o) c) v d
 | .own id=>∀e xs,o.lookup id=some (.arr e xs)→v=E.cur id
 | .pel id i off=>∀e xs,o.lookup id=some (.arr e xs)→i<xs.length ∧
  ∃g,(E.cur id).ownBlock=some g∧v=.pointer (some ⟨g,i*P.cellsOf e+off,none⟩)
 | .pbox id off=>∀e cs,o.lookup id=some (.box e cs)→v=.pointer (some ⟨E.blk id,off,none⟩)
 | .omap id=>∀ks vs,o.lookup id=some (.mp ks vs)→v=.map (some (E.blk id))
 | .vsl id i n=>∀e xs,o.lookup id=some (.arr e xs)→i+n≤xs.length∧∃a len cap,E.cur id=.slice a len cap∧v=sliced a i (i+n) cap (P.cellsOf e)
 | .fn f caps=>∃vs:List Value,v=.func (.func f) #[] vs.toArray∧vs.length=caps.length∧∀(j:Nat) c,caps[j]?=some c→Dh M0 w E o (vs.getD j undef) c
 | .hid R caps=>∃vs:List Value,R v vs∧vs.length=caps.length∧∀(j:Nat) c,caps[j]?=some c→Dh M0 w E o (vs.getD j undef) c
 | .nst id=>(∀e cs ln,o.lookup id=some (.nar e cs ln)→v=E.cur id)∧∀ks cs ln,o.lookup id=some (.nmp ks cs ln)→v=.map (some (E.blk id))
 | .nel id j=>∀e cs ln,o.lookup id=some (.nar e cs ln)→j<cs.length∧∃g,(E.cur id).ownBlock=some g∧v=.pointer (some ⟨g,j,none⟩)
 | .dead=>True
def sP (w:World)(E:Env)(o:List (Nat×Ob))(e:TypeId)(xs:List AV)(v:Value):Prop :=
 ∃vals,Lj w0 M0 w e (P.cellsOf e) v xs.length vals∧(∀x∈xs,(AV.cells x).length=P.cellsOf e) ∧
  (∀(j:Nat) d,(flat xs)[j]?=some d→AV.leaf d=true∧bJ w (cB M0 (owned E o) .pl) (vals.getD j undef) d)
def XI (w:World)(E:Env)(o:List (Nat×Ob))(ks:List Value)(vs:List AV)(b:Nat):Prop :=
 ∃es clock,w.heap[b]?=some (.map es clock)∧mK w0 M0 b∧es.toList.map (·.key)=ks∧ks.length=vs.length ∧
  (∀(j:Nat) d,vs[j]?=some d→bJ w (cB M0 (owned E o) .pl) ((es.toList.map (·.val)).getD j undef) d)
def nn (w:World)(E:Env)(o:List (Nat×Ob))(v:Value):Cell→Prop
 | .d x=>AV.leaf x=true∧bJ w (cB M0 (owned E o) .pl) v x
 | .row e xs=>sP P w0 M0 w E o e xs v
 | .mp ks vs=>∃b,v=.map (some b)∧XI w0 M0 w E o ks vs b
structure jl (w:World)(E:Env)(o:List (Nat×Ob))(f:Nat→Value)(cs:List Cell)(ln:Option (Nat×dX)):Prop where
 ok:∀(j:Nat) c,cs[j]?=some c→ln.map (·.1)≠some j→nn P w0 M0 w E o (f j) c
 apart:∀(i j:Nat) ci cj b,cs[i]?=some ci→cs[j]?=some cj→ln.map (·.1)≠some i→ln.map (·.1)≠some j→Dg (f i) b ci→Dg (f j) b cj→i=j
 larr:∀(j:Nat) u,ln=some (j,.arr u)→f j=E.cur u
 lmap:∀(j:Nat) u,ln=some (j,.map u)→f j=.map (some (E.blk u))
def kT (w:World)(E:Env)(o:List (Nat×Ob))(id:Nat):Ob→Prop
 | .arr e xs=>∃vals,Lj w0 M0 w e (P.cellsOf e) (E.cur id) xs.length vals∧(∀x∈xs,(AV.cells x).length=P.cellsOf e) ∧
  (∀(j:Nat) d,(flat xs)[j]?=some d→AV.leaf d=true∧bJ w (cB M0 (owned E o) .pl) (vals.getD j undef) d)
 | .box e cs=>∃vals:List Value,w.heap[E.blk id]?=some (.cells vals.toArray e (0,0))∧mK w0 M0 (E.blk id)∧vals.length=cs.length ∧
  (∀(j:Nat) s,cs[j]?=some s→SV.leaf s=true∧(vals.getD j undef).oneCell'=true∧bm P M0 w E o (vals.getD j undef) s)
 | .mp ks vs=>∃es clock,w.heap[E.blk id]?=some (.map es clock)∧mK w0 M0 (E.blk id)∧es.toList.map (·.key)=ks∧ks.length=vs.length ∧
  (∀(j:Nat) d,vs[j]?=some d→bJ w (cB M0 (owned E o) .pl) ((es.toList.map (·.val)).getD j undef) d)
 | .nar e cs ln=>∃n vals,Lj w0 M0 w e (P.cellsOf e) (E.cur id) n vals∧cs.length=n*P.cellsOf e ∧
  (∀(j:Nat),j<cs.length→vals.getD j undef=E.sub id j)∧jl P w0 M0 w E o (E.sub id) cs ln ∧
  ∀b,fX (E.sub id) b cs ln→(E.cur id).ownBlock≠some b
 | .nmp ks cs ln=>∃es clock,w.heap[E.blk id]?=some (.map es clock)∧mK w0 M0 (E.blk id)∧es.toList.map (·.key)=ks∧ks.length=cs.length ∧
  (∀(j:Nat),j<cs.length→(es.toList.map (·.val)).getD j undef=E.sub id j)∧jl P w0 M0 w E o (E.sub id) cs ln ∧
  ∀b,fX (E.sub id) b cs ln→E.blk id≠b
structure gr (E:Env)(o:List (Nat×Ob))(w:World):Prop where
 objs:∀id ob,o.lookup id=some ob→kT P w0 M0 w E o id ob
 disj:∀id ob id' ob' b,o.lookup id=some ob→o.lookup id'=some ob'→bE E id b ob→bE E id' b ob'→id=id'
 below:xc w0.dr w0.K w0.w w
 pins:∀x∈w0.pin,E.blk x.1=x.2
def Marks (w0:Fr)(a:Act)(w:World):Prop :=
 match w0.md with
 | .marks=>∃Ds:List Nat,a.defers=Ds.map (fun D=>{ target:=.collected D,args:=#[] })∧Ds.Pairwise (·≠·)∧∀D∈Ds,w0.w.heap.size≤D∧w.heap[D]?=some (.deferred (some []))
 | _=>a.defers=[]
structure ba (E:Env)(s:St)(a:Act)(w:World):Prop where
 size:a.tmps.size=s.n
 defers:Marks w0 a w
 slots:∀t d,s.s.lookup t=some d→t<s.n∧bm P M0 w E s.o (a.tmps.getD t undef) d
 wok:gr P w0 M0 E s.o w
def pE (s:St)(a:Act)(w:World):Prop:=∃E,ba P w0 M0 E s a w
variable {P w0 M0}
theorem gu {x:Obj}(h1:w.heap[b]?=some x):b<w.heap.size:=by
 rcases aaK b w.heap.size with hlt|hge
 ·exact hlt
 ·rw[ab9 hge] at h1;cases h1
theorem nn.range {c:Cell}(h:nn P w0 M0 w E o v c)(hb:Dg v b c):mK w0 M0 b∧b<w.heap.size:=by
 cases c with
 | d x=>exact hb.elim
 | row e xs =>
   obtain⟨vals,h1,_⟩:=h;exact⟨h1.2 b hb,(h1.1.lt b hb).2⟩
 | mp ks vs =>
   obtain⟨b',e,es,clock,h1,h2,_⟩:=h;rw[show v=_ from hb] at e;injection e with e;injection e with e;subst e;exact⟨h2,gu h1⟩
theorem jl.range (h:jl P w0 M0 w E o f cs ln)(hb:fX f b cs ln):mK w0 M0 b∧b<w.heap.size:=by obtain⟨j,c,hc,hl,hb⟩:=hb;exact(h.ok j c hc hl).range hb
theorem kT.dx {id:Nat}{ob:Ob}(h:kT P w0 M0 w E o id ob)(hb:bE E id b ob):mK w0 M0 b∧b<w.heap.size:=by
 cases ob with
 | arr e xs =>
   obtain⟨vals,h1,_⟩:=h;exact⟨h1.2 b hb,(h1.1.lt b hb).2⟩
 | box e cs =>
   obtain⟨vals,h1,h2,_⟩:=h;simp only[bE] at hb;subst hb;refine⟨h2,?_⟩;rcases aaK (E.blk id) w.heap.size with hlt|hge
   · exact hlt
   · rw[ab9 hge] at h1;cases h1
 | mp ks vs =>
   obtain⟨es,clock,h1,h2,_⟩:=h;simp only[bE] at hb;subst hb;refine⟨h2,?_⟩;rcases aaK (E.blk id) w.heap.size with hlt|hge
   · exact hlt
   · rw[ab9 hge] at h1;cases h1
 | nar e cs ln =>
   obtain⟨n,vals,h1,_,_,h4,_⟩:=h;rcases hb with hb|hb
   · exact⟨h1.2 b hb,(h1.1.lt b hb).2⟩
   · exact h4.range hb
 | nmp ks cs ln =>
   obtain⟨es,clock,h1,h2,_,_,_,h4,_⟩:=h;rcases hb with hb|hb
   · subst hb;exact⟨h2,gu h1⟩
   · exact h4.range hb
theorem gr.bF (h:gr P w0 M0 E o w)(hb:owned E o b):mK w0 M0 b∧b<w.heap.size:=by obtain⟨id,ob,h1,h2⟩:=hb;exact(h.objs id ob h1).dx h2
theorem gr.hJ (h:gr P w0 M0 E o w)(aa:∀b,M0 b→b<w0.w.heap.size)(hb:w.heap.size≤b):mK w0 M0 b :=
 ⟨fun hk=>by have:=w0.hK b hk;have:=h.below.size;omega,fun hm=>by have:=aa b hm;have:=h.below.size;omega⟩
theorem bm.below {d:SV}(h:bm P M0 w E o v d)(hb:bB D w.heap.size w w'):bm P M0 w' E o v d:=by
 cases d with
 | v c d=>exact bJ.under h hb
 | own id=>exact h
 | pel id i off=>exact h
 | pbox id off=>exact h
 | omap id=>exact h
 | vsl id i n=>exact h
 | fn f caps =>
   obtain⟨vs,h1,h2,h3⟩:=h;refine⟨vs,h1,h2,fun j c hc=>?_⟩;have:=h3 j c hc;cases c with
   | bx id=>exact this
   | pl d=>exact bJ.under this hb
   | ow id=>exact this
   | om id=>exact this
 | hid f caps =>
   obtain⟨vs,h1,h2,h3⟩:=h;refine⟨vs,h1,h2,fun j c hc=>?_⟩;have:=h3 j c hc;cases c with
   | bx id=>exact this
   | pl d=>exact bJ.under this hb
   | ow id=>exact this
   | om id=>exact this
 | nst id=>exact h
 | nel id j=>exact h
 | dead=>exact h
theorem dy (hb:bB D w.heap.size w w'):w.grownBy w' none :=
 ⟨hb.os,hb.tape,hb.output,hb.size,fun k hk _=>hb.block k hk⟩
theorem kq {base:Nat}{e:TypeId}{k:Nat}{n:Nat}{xs:List Value}(h:w.ownsRow base e k v n xs)(hk:∀g,v.ownBlock=some g→w'.heap[g]?=w.heap[g]?):w'.ownsRow base e k v n xs:=by
 refine⟨h.1,?_⟩;rcases h.2 with h1|⟨g,cap,cur,hv,h2,h3,h4⟩
 ·exact .inl h1
 ·exact .inr ⟨g,cap,cur,hv,h2,by rw[hk g (by rw[hv];rfl)];exact h3,h4⟩
theorem nn.go {w1:Fr}{M1:Nat→Prop}{E':Env}{c:Cell}(h:nn P w0 M0 w E o v c)(hk:∀b,Dg v b c→w'.heap[b]?=w.heap[b]?)(hf:∀b,Dg v b c→mK w0 M0 b→mK w1 M1 b)
   (rep:∀v d,bJ w (cB M0 (owned E o) .pl) v d→bJ w' (cB M1 (owned E' o') .pl) v d):nn P w1 M1 w' E' o' v c:=by
 cases c with
 | d x=>exact⟨h.1,rep _ _ h.2⟩
 | row e xs =>
   obtain⟨vals,h1,h2,h3⟩:=h;exact⟨vals,⟨kq h1.1 fun g hg=>hk g hg,fun b hb=>hf b hb (h1.2 b hb)⟩,h2,fun j d hd=>⟨(h3 j d hd).1,rep _ _ (h3 j d hd).2⟩⟩
 | mp ks vs =>
   obtain⟨b,e,es,clock,h1,h2,h3,h4,h5⟩:=h;exact⟨b,e,es,clock,by rw[hk b e];exact h1,hf b e h2,h3,h4,fun j d hd=>rep _ _ (h5 j d hd)⟩
structure np (E E':Env)(ln ln':Option (Nat×dX)):Prop where
 fst:ln'.map (·.1)=ln.map (·.1)
 larr:∀j u',ln'=some (j,.arr u')→∃u,ln=some (j,.arr u)∧E'.cur u'=E.cur u
 lmap:∀j u',ln'=some (j,.map u')→∃u,ln=some (j,.map u)∧E'.blk u'=E.blk u
theorem np.refl (E:Env)(ln:Option (Nat×dX)):np E E ln ln:=⟨rfl,fun j u h=>⟨u,h,rfl⟩,fun j u h=>⟨u,h,rfl⟩⟩
theorem jl.go {w1:Fr}{M1:Nat→Prop}{E':Env}{ln':Option (Nat×dX)}(h:jl P w0 M0 w E o f cs ln)(hl:np E E' ln ln')(hk:∀b,fX f b cs ln→w'.heap[b]?=w.heap[b]?)(hf:∀b,fX f b cs ln→mK w0 M0 b→mK w1 M1 b)
  (rep:∀v d,bJ w (cB M0 (owned E o) .pl) v d→bJ w' (cB M1 (owned E' o') .pl) v d):jl P w1 M1 w' E' o' f cs ln' :=
 ⟨fun j c hc hj => by
  rw[hl.fst] at hj;exact(h.ok j c hc hj).go (fun b hb=>hk b ⟨j,c,hc,hj,hb⟩) (fun b hb=>hf b ⟨j,c,hc,hj,hb⟩) rep,fun i j ci cj b hi hj h1 h2=>by
  rw[hl.fst] at h1 h2;exact h.apart i j ci cj b hi hj h1 h2,fun j u hu=>by
  obtain⟨u0,h1,h2⟩:=hl.larr j u hu;rw[h2];exact h.larr j u0 h1,fun j u hu=>by
  obtain⟨u0,h1,h2⟩:=hl.lmap j u hu;rw[h2];exact h.lmap j u0 h1⟩
theorem jl.cd (h:jl P w0 M0 w E o f cs ln)(hown:∀b,owned E o' b→owned E o b):jl P w0 M0 w E o' f cs ln :=
 h.go (.refl E ln) (fun _ _=>rfl) (fun _ _ hf=>hf) fun v d hr=>hr.cd fun b hb=>hb.imp id (hown b)
theorem jl.below (h:jl P w0 M0 w E o f cs ln)(hb:bB D w.heap.size w w'):jl P w0 M0 w' E o f cs ln :=
 h.go (.refl E ln) (fun b hs=>hb.block b (h.range hs).2) (fun _ _ hf=>hf) fun v d hr=>hr.under hb
theorem kT.below {id:Nat}{ob:Ob}(h:kT P w0 M0 w E o id ob)(hb:bB D w.heap.size w w'):kT P w0 M0 w' E o id ob:=by
 cases ob with
 | arr e xs =>
   obtain⟨vals,h1,h2,h3⟩:=h;refine⟨vals,⟨h1.1.kept (dy hb) ?_,h1.2⟩,h2,fun j d hd=>⟨(h3 j d hd).1,(h3 j d hd).2.under hb⟩⟩;cases(E.cur id).ownBlock<;>simp
 | box e cs =>
   obtain⟨vals,h1,h2,h3,h4⟩:=h;refine⟨vals,?_,h2,h3,fun j s hs=>⟨(h4 j s hs).1,(h4 j s hs).2.1,(h4 j s hs).2.2.below hb⟩⟩;have hlt:E.blk id<w.heap.size:=by
     rcases aaK (E.blk id) w.heap.size with hlt|hge
     · exact hlt
     · rw[ab9 hge] at h1;cases h1
   rw[hb.block _ hlt];exact h1
 | mp ks vs =>
   have hlt:=(kT.dx h rfl).2;obtain⟨es,clock,h1,h2,h3,h4,h5⟩:=h;exact⟨es,clock,by rw[hb.block _ hlt];exact h1,h2,h3,h4,fun j d hd=>(h5 j d hd).under hb⟩
 | nar e cs ln =>
   obtain⟨n,vals,h1,h2,h3,h4,h5⟩:=h;refine⟨n,vals,⟨h1.1.kept (dy hb) ?_,h1.2⟩,h2,h3,h4.below hb,h5⟩;cases(E.cur id).ownBlock<;>simp
 | nmp ks cs ln =>
   obtain⟨es,clock,h1,h2,h3,h4,h5,h6,h7⟩:=h;exact⟨es,clock,by rw[hb.block _ (gu h1)];exact h1,h2,h3,h4,h5,h6.below hb,h7⟩
theorem gr.grow (h:gr P w0 M0 E o w)(hb:bB w0.dr w.heap.size w w'):gr P w0 M0 E o w' :=
 ⟨fun id ob ho=>(h.objs id ob ho).below hb,h.disj,h.below.trans (hb.Pw fun b hk=>aaT (w0.hK b hk) h.below.size),h.pins⟩
theorem Marks.nil {a:Act}(h:a.defers=[]):Marks w0 a w:=by
 unfold Marks;split
 ·exact⟨[],h,.nil,fun D hD=>by cases hD⟩
 ·exact h
theorem Marks.same {a a':Act}(h:Marks w0 a w)(ha:a'.defers=a.defers)(hs:∀D:Nat,w.heap[D]?=some (Obj.deferred (some []))→w'.heap[D]?=some (Obj.deferred (some []))):Marks w0 a' w':=by
 unfold Marks at h ⊢;split
 ·next hm =>
  rw[hm] at h;obtain⟨Ds,h1,h2,h3⟩:=h;exact⟨Ds,ha.trans h1,h2,fun D hD=>⟨(h3 D hD).1,hs D (h3 D hD).2⟩⟩
 ·next hm =>
  split at h
  ·next hm2=>exact absurd hm2 hm
  ·exact ha.trans h
theorem Marks.below {a:Act}(h:Marks w0 a w)(hb:bB D w.heap.size w w'):Marks w0 a w':=h.same rfl fun D hD=>(hb.block D (gu hD)).trans hD
theorem ba.grow {s:St}{a:Act}(h:ba P w0 M0 E s a w)(hb:bB w0.dr w.heap.size w w'):ba P w0 M0 E s a w' :=
 ⟨h.size,h.defers.below hb,fun t d hd=>⟨(h.slots t d hd).1,(h.slots t d hd).2.below hb⟩,h.wok.grow hb⟩
theorem pE.grow {s:St}{a:Act}(h:pE P w0 M0 s a w)(hb:bB w0.dr w.heap.size w w'):pE P w0 M0 s a w' :=
 let⟨E,h⟩:=h
 ⟨E,h.grow hb⟩
end
abbrev vvw (d:AV):SV:=.v .pl d
abbrev vvz (d:AV):SV:=.v .mx d
abbrev vvv:SV:=.v .pl (.sc (.slice none 0 0))
end Go.Am
