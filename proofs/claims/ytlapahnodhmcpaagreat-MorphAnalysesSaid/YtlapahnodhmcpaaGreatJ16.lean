/-
  Part of the proof.
-/
import Derived.Test.YtlapahnodhmcpaaGreatJ0
import Derived.Test.YtlapahnodhmcpaaGreatJ10
import Derived.Test.YtlapahnodhmcpaaGreatJ15
import Derived.Test.YtlapahnodhmcpaaGreatJ9
import Derived.Test.YtlapahnodhmcpaaGreatJ13
import Derived.Test.YtlapahnodhmcpaaGreatJ6
set_option linter.unusedVariables false
set_option linter.unusedSectionVars false
set_option linter.unusedSimpArgs false
set_option maxRecDepth 100000
set_option maxHeartbeats 40000000
namespace Go.Am
open Go.RowKit
abbrev HM (w0:Fr)(M0:Nat→Prop):Prop:=∀b,M0 b→b<w0.w.heap.size
def PG (P:Program)(w0:Fr)(M0:Nat→Prop)(T:List (Nat×Cv))(o:Oper)(ρ:Operand→Option SV)(ob:List (Nat×Ob))(d:SV):Prop:=fh P T→HM w0 M0→Pure P w0 M0 o ρ ob d
def SG (P:Program)(w0:Fr)(M0:Nat→Prop)(T:List (Nat×Cv))(o:Oper)(s s':St):Prop:=fh P T→HM w0 M0→Step P w0 M0 o s s'
section
variable {P:Program} {w0:Fr}{M0:Nat→Prop}{T:List (Nat×Cv)}{o:Oper}{ρ:Operand→Option SV}{ob:List (Nat×Ob)}{d:SV}{x y:Operand}{t t' e k:Nat}{c:fQ}{id off:Nat}{xs ys:List AV}{a b:Int}{α:Type}{f:α→AV}{l:List α}
theorem Zx (h:C1 T o ρ ob=some d):PG P w0 M0 T o ρ ob d:=fun hT _=>wT hT h
theorem QW (ho:o.op=.call { callee:=.builtin .len,args:=#[x],argTypes:=#[t] })(hT:(dE T t).se=some e)(hx:viewAt ρ ob x=some (c,.sl (l.map f))):PG P w0 M0 T o ρ ob (.v .pl (int l.length)):=fun h _=>gy ho (km h hT) hx
theorem QX (ho:o.op=.binOp .add t x y t')(hx:bj ρ x=some (.int .i64 a))(hy:bj ρ y=some (.int .i64 b))(h:-9223372036854775808≤a+b∧a+b≤9223372036854775807):PG P w0 M0 T o ρ ob (.v .pl (int (a+b))):=fun _ _=>cH ho hx hy h
theorem QY (ho:o.op=.binOp .sub t x y t')(hx:bj ρ x=some (.int .i64 a))(hy:bj ρ y=some (.int .i64 b))(h:-9223372036854775808≤a-b∧a-b≤9223372036854775807):PG P w0 M0 T o ρ ob (.v .pl (int (a-b))):=fun _ _=>qh ho hx hy h
theorem QZ (ho:o.op=.binOp .mul t x y t')(hx:bj ρ x=some (.int .i64 a))(hy:bj ρ y=some (.int .i64 b))(h:-9223372036854775808≤a*b∧a*b≤9223372036854775807):PG P w0 M0 T o ρ ob (.v .pl (int (a*b))):=fun _ _=>IE ho hx hy h
theorem Q0 {q:IntKind}(ho:o.op=.binOp .rem t x y t')(hx:bj ρ x=some (.int q a))(hy:bj ρ y=some (.int q b))(h:0≤a∧0<b):PG P w0 M0 T o ρ ob (.v .pl (.sc (.int q (a % b)))):=fun _ _=>jA ho hx hy h
theorem Q1 (ho:o.op=.binOp .quo t x y t')(hx:bj ρ x=some (.int .i64 a))(hy:bj ρ y=some (.int .i64 b))(h:0≤a∧0<b∧a≤9223372036854775807):PG P w0 M0 T o ρ ob (.v .pl (int (a / b))):=fun _ _=>fw ho hx hy h
theorem T9 [Inhabited α]{q:IntKind}{n:Int}{i:Nat}(ho:o.op=.indexAddr t x y)(hT:(dE T t).se=some e)(hk:(dE T e).sz=some k)(hx:viewAt ρ ob x=some (c,.sl (l.map f)))(hy:bj ρ y=some (.int q n)) [hi:Ix n i](hc:∀z,(AV.cells (f z)).length=k)(h:0≤n∧n<l.length) :
 PG P w0 M0 T o ρ ob (.v c (.pc (AV.cells (f (l.getD i default))) 0)):=fun hh _=>ee ho (km hh hT) (k8 hh hk) hx hy h hc
theorem Q2 {parts:Array (Nat×Operand)}{n b:Nat}{ds:List AV}(ho:o.op=.buildSlice t n parts)(hT:(dE T t).se=some e)(hk:(dE T e).sz=some k)(hb:(dE T e).bt=some b)(hp:mz ρ ob k 0 parts.toList=some (c,ds))(hn:ds.length=n)(hn0:Nat.blt 0 n=true)(hsm:Nat.ble (n*k) 16777216=true) :
 PG P w0 M0 T o ρ ob (.v c (.sl ds)):=fun h hM=>bY ho (km h hT) (wQ h hk hb) hp hn hn0 hsm hM
theorem Ua {a0:AV}(ho:o.op=.box t x)(hx:viewAt ρ ob x=some (c,a0))(hnt:jj a0=true):PG P w0 M0 T o ρ ob (.v c (.pc a0.cells 0)):=fun _ hM=>KW ho hx hnt hM
theorem Sh {g:FuncId}{caps:Array Operand}{ds:List AV}(ho:o.op=.makeFunc (.func g) #[] caps)(hc:iT ρ ob caps.toList=some (c,ds)):PG P w0 M0 T o ρ ob (.v c (.clo g ds)):=fun _ _=>II ho hc
theorem W6 {g:FuncId}{caps:Array Operand}{cs:List qg}(ho:o.op=.makeFunc (.func g) #[] caps)(hc:zA ρ caps.toList=some cs):PG P w0 M0 T o ρ ob (.fn g cs):=fun _ _=>OV ho hc
theorem Q3 {q:IntKind}{i:Int}(ho:o.op=.slice t x (some y) none none)(hT:(dE T t).se=some e)(hk:(dE T e).sz=some k)(hx:viewAt ρ ob x=some (c,.sl (l.map f)))(hy:bj ρ y=some (.int q i))(hxk:∀z,(AV.cells (f z)).length=k)(h:0≤i∧i≤l.length) :
 PG P w0 M0 T o ρ ob (.v c (.sl ((l.drop i.toNat).map f))):=fun hh _=>na ho (km hh hT) (k8 hh hk) hx hy h hxk
theorem Q4 {q:IntKind}{i:Int}(ho:o.op=.slice t x none (some y) none)(hT:(dE T t).se=some e)(hk:(dE T e).sz=some k)(hx:viewAt ρ ob x=some (c,.sl (l.map f)))(hy:bj ρ y=some (.int q i))(hxk:∀z,(AV.cells (f z)).length=k)(h:0≤i∧i≤l.length) :
 PG P w0 M0 T o ρ ob (.v c (.sl ((l.take i.toNat).map f))):=fun hh _=>fa ho (km hh hT) (k8 hh hk) hx hy h hxk
theorem Q5 {q:IntKind}{i:Int}(ho:o.op=.indexAddr t x y)(hT:(dE T t).se=some e)(hk:(dE T e).sz=some k)(hx:ρ x=some (.own id))(hl:ob.lookup id=some (.arr e xs))(hy:bj ρ y=some (.int q i))(h:0≤i∧i<xs.length):PG P w0 M0 T o ρ ob (.pel id i.toNat 0):=fun hh _=>aD ho (km hh hT) (k8 hh hk) hx hl hy h
theorem Q6 {q:IntKind}{i n:Nat}{j:Int}(ho:o.op=.indexAddr t x y)(hT:(dE T t).se=some e)(hk:(dE T e).sz=some k)(hx:ρ x=some (.vsl id i n))(hl:ob.lookup id=some (.arr e xs))(hy:bj ρ y=some (.int q j))(h:0≤j∧j<n):PG P w0 M0 T o ρ ob (.pel id (i+j.toNat) 0):=fun hh _=>wM ho (km hh hT) (k8 hh hk) hx hl hy h
theorem Q7 {i n:Nat}(ho:o.op=.call { callee:=.builtin .len,args:=#[x],argTypes:=#[t] })(hT:(dE T t).se=some e)(hx:ρ x=some (.vsl id i n))(hl:ob.lookup id=some (.arr e xs)):PG P w0 M0 T o ρ ob (.v .pl (int n)):=fun h _=>A9 ho (km h hT) hx hl
theorem Q8 {cs:List Cell}{ln:Option (Nat×dV)}(ho:o.op=.call { callee:=.builtin .len,args:=#[x],argTypes:=#[t] })(hT:(dE T t).se=some e)(hk:(dE T e).sz=some 1)(hx:ρ x=some (.nst id))(hl:ob.lookup id=some (.nar e cs ln)):PG P w0 M0 T o ρ ob (.v .pl (.sc (.int .i64 cs.length))):=fun h _=>Bj ho (km h hT) (k8 h hk) hx hl
theorem Q9 {cs:List AV}(ho:o.op=.nilCheck x)(hx:ρ x=some (.v c (.pc cs off))):PG P w0 M0 T o ρ ob (.v c (.pc cs off)):=fun _ _=>rK ho hx
theorem Ra [Inhabited α]{i:Nat}{a0:AV}(ho:o.op=.load t x)(hT:(dE T t).ag=some false)(hx:ρ x=some (.pel id i off))(hl:ob.lookup id=some (.arr e (l.map f)))(h:i<l.length)(hc:(f (l.getD i default)).cells[off]?=some a0):PG P w0 M0 T o ρ ob (.v .pl a0):=fun hh _=>e9 ho (tQ hh hT) hx hl (ix h) hc
theorem Rb [Inhabited α]{i:Nat}(ho:o.op=.load t x)(hT:(dE T t).ag=some true)(hk:(dE T t).sz=some k)(hx:ρ x=some (.pel id i 0))(hl:ob.lookup id=some (.arr e (l.map f)))(hck:(dE T e).sz=some k)(h:i<l.length):PG P w0 M0 T o ρ ob (.v .pl (.agg (f (l.getD i default)).cells)):=fun hh _=>sB ho (tQ hh hT) (k8 hh hk) hx hl (k8 hh hck) (ix h)
theorem LO {l l':List UInt8}(ho:o.op=.binOp .eql t x y t')(hx:bj ρ x=some (.string ⟨l.toArray⟩))(hy:bj ρ y=some (.string ⟨l'.toArray⟩)):PG P w0 M0 T o ρ ob (.v .pl (.sc (.bool (decide (l=l'))))):=fun _ _=>IG ho hx hy
theorem LP {l l':List UInt8}(ho:o.op=.binOp .neq t x y t')(hx:bj ρ x=some (.string ⟨l.toArray⟩))(hy:bj ρ y=some (.string ⟨l'.toArray⟩)):PG P w0 M0 T o ρ ob (.v .pl (.sc (.bool (!decide (l=l'))))):=fun _ _=>tM ho hx hy
variable {s s':St}
theorem Ub (ho:o.op=.assign x)(hd:o.dst=some t)(hn:Nat.blt t s.n=true)(hnd:Nodup s.s=true)(hx:bj s.ev x=some (.slice none 0 0))(he:(dE T o.type).se=some e):SG P w0 M0 T o s ((s.cD true t (.arr e [])).put t (.own t)):=fun _ hM=>KT ho hd hn hnd hx e hM
theorem Uc {bb:Nat}(ho:o.op=.call { callee:=.builtin .append,args:=#[x,y],argTypes:=#[t',t'] })(hd:o.dst=some t)(hn:Nat.blt t s.n=true)(hnd:Nodup s.s=true)(hT:(dE T t').se=some e)(hk:(dE T e).sz=some k)(hb:(dE T e).bt=some bb)
  (hx:s.ev x=some (.own id))(hl:s.o.lookup id=some (.arr e xs)){z:AV}(hy:viewAt s.ev s.o y=some (.pl,.sl [z]))(hz:z.cells.length=k)(h1:(xs.length+[z].length)*bb≤140737488355328)(h2:xs.length+[z].length≤4611686018427387904):SG P w0 M0 T o s ((s.cD true id (.arr e (xs++[z]))).put t (.own id)) :=
 fun h hM=>step_append ho hd hn hnd (km h hT) (wQ h hk hb) hx hl hM (cZ hy (cw hz)) h1 h2
theorem Ud {bb:Nat}(ho:o.op=.call { callee:=.builtin .append,args:=#[x,y],argTypes:=#[t',t'] })(hd:o.dst=some t)(hn:Nat.blt t s.n=true)(hnd:Nodup s.s=true)(hT:(dE T t').se=some e)(hk:(dE T e).sz=some 1)(hb:(dE T e).bt=some bb)
  (hx:s.ev x=some (.own id))(hl:s.o.lookup id=some (.arr e xs))(hy:viewAt s.ev s.o y=some (c,.sl (l.map f)))(hz:∀z,∃v,f z=.sc v)(h1:(xs.length+(l.map f).length)*bb≤140737488355328)(h2:xs.length+(l.map f).length≤4611686018427387904):SG P w0 M0 T o s ((s.cD true id (.arr e (xs++l.map f))).put t (.own id)) :=
 fun h hM=>step_append ho hd hn hnd (km h hT) (wQ h hk hb) hx hl hM (sE hy hz) h1 h2
theorem Ue {parts:Array (Nat×Operand)}{n b:Nat}{ds:List AV}(ho:o.op=.buildSlice t' n parts)(hd:o.dst=some t)(hn:Nat.blt t s.n=true)(hnd:Nodup s.s=true)(hT:(dE T t').se=some e)(hk:(dE T e).sz=some k)(hb:(dE T e).bt=some b)
 (hp:mz s.ev s.o k 0 parts.toList=some (.pl,ds))(hnn:ds.length=n)(hn0:Nat.blt 0 n=true)(hsm:Nat.ble (n*k) 16777216=true):SG P w0 M0 T o s ((s.cD true t (.arr e ds)).put t (.own t)):=fun h hM=>KU ho hd hn hnd (km h hT) (wQ h hk hb) hp hnn hn0 hsm hM
theorem Si {parts:Array (Nat×Operand)}{b:Nat}(ho:o.op=.buildSlice t' 0 parts)(hp:parts.toList=[])(hd:o.dst=some t)(hn:Nat.blt t s.n=true)(hnd:Nodup s.s=true)(hT:(dE T t').se=some e)(hk:(dE T e).sz=some k)(hb:(dE T e).bt=some b):SG P w0 M0 T o s ((s.cD true t (.arr e [])).put t (.own t)) :=
 fun h hM=>IF ho hp hd hn hnd (km h hT) (wQ h hk hb) hM
theorem Uf {a0:AV}(ho:o.op=.box t' x)(hd:o.dst=some t)(hn:Nat.blt t s.n=true)(hpt:Nat.blt t 1000000=true)(hnd:Nodup s.s=true)(hx:s.ev x=some (.v c a0))(hnt:jj a0=true)(hc:c≠.vw):SG P w0 M0 T o s ((s.cD true t (.box t' (cY (.v c a0)))).put t (.pbox t 0)):=fun _ hM=>KV ho hd hn hpt hnd hx hnt hc hM
end
theorem gw {p:Prop}(h:p:=by first|exact Zy rfl rfl (by first|(simp only[dq];exact rfl)|exact rfl|fail) (by first|(simp only[dq];exact rfl)|exact rfl|fail)|exact Zz rfl rfl rfl (by first|(simp only[dq];exact rfl)|exact rfl|fail) (by first|(simp only[dq];exact rfl)|exact rfl|fail)|exact ZA rfl rfl rfl (by first|(simp only[dq];exact rfl)|exact rfl|fail) (by first|(simp only[dq];exact rfl)|exact rfl|fail)|exact W7 rfl rfl|exact g_nn rfl rfl|exact W8 rfl|exact W9 rfl|exact ZB|exact ZC rfl|exact ZD rfl rfl|exact ZE rfl rfl rfl rfl|exact ZF rfl|exact ZG rfl rfl|fail):p:=h
theorem ZH {p:Prop}(h:p:=by first|exact Q5 rfl rfl rfl rfl rfl rfl (by first|(simp only[ll];omega)|omega)|exact Q6 rfl rfl rfl rfl rfl rfl (by first|(simp only[ll];omega)|omega)|exact T9 rfl rfl rfl rfl rfl (fun _=>rfl) ace|exact QW rfl rfl rfl|exact QX rfl rfl rfl ace|exact Q2 rfl rfl rfl rfl rfl rfl rfl rfl|exact Ua rfl rfl rfl|exact a_bld rfl rfl rfl rfl rfl rfl|exact Sh rfl rfl|exact W6 rfl rfl|exact QY rfl rfl rfl ace|exact QZ rfl rfl rfl ace|exact Q0 rfl rfl rfl ace|exact Q1 rfl rfl rfl ace|exact Ra rfl rfl rfl rfl (by first|(simp only[ll];omega)|omega) rfl|exact Rb rfl rfl rfl rfl rfl rfl (by first|(simp only[ll];omega)|omega)|exact Q7 rfl rfl rfl rfl|exact Q8 rfl rfl rfl rfl rfl|exact Q3 rfl rfl rfl rfl rfl (fun _=>rfl) (by first|(simp only[ll];omega)|omega)|exact Q4 rfl rfl rfl rfl rfl (fun _=>rfl) ace|exact Q9 rfl rfl|exact LO rfl rfl rfl|exact LP rfl rfl rfl|fail):p:=h
theorem Y2 {p:Prop}(h:p:=by first|exact Q5 rfl rfl rfl rfl rfl rfl (by first|(simp only[ll];omega)|omega)|exact Q6 rfl rfl rfl rfl rfl rfl (by first|(simp only[ll];omega)|omega)|exact T9 rfl rfl rfl rfl rfl (fun _=>rfl) ace|exact QW rfl rfl rfl|exact QX rfl rfl rfl ace|exact Q2 rfl rfl rfl rfl rfl rfl rfl rfl|exact QY rfl rfl rfl ace|exact QZ rfl rfl rfl ace|exact Q0 rfl rfl rfl ace|exact Q1 rfl rfl rfl ace|exact Ra rfl rfl rfl rfl (by first|(simp only[ll];omega)|omega) rfl|exact Rb rfl rfl rfl rfl rfl rfl (by first|(simp only[ll];omega)|omega)|exact Q7 rfl rfl rfl rfl|exact Q8 rfl rfl rfl rfl rfl|exact Q3 rfl rfl rfl rfl rfl (fun _=>rfl) (by first|(simp only[ll];omega)|omega)|exact Q4 rfl rfl rfl rfl rfl (fun _=>rfl) ace|exact Q9 rfl rfl|exact LO rfl rfl rfl|exact LP rfl rfl rfl|fail):p:=h
theorem Y3 {p:Prop}(h:p:=by first|exact Ub rfl rfl rfl rfl rfl rfl|exact Uc rfl rfl rfl rfl rfl rfl rfl rfl rfl rfl rfl (by first|(simp only[ll];omega)|omega) (by first|(simp only[ll];omega)|omega)|exact Ud rfl rfl rfl rfl rfl rfl rfl rfl rfl rfl (fun _=>⟨_,rfl⟩) (by first|(simp only[ll];omega)|omega) (by first|(simp only[ll];omega)|omega)|exact Ue rfl rfl rfl rfl rfl rfl rfl rfl rfl rfl rfl|exact Si rfl rfl rfl rfl rfl rfl rfl rfl|exact Uf rfl rfl rfl rfl rfl rfl rfl acg|fail):p:=h
theorem ZI {p:Prop}(h:p:=by first|exact Zx rfl|exact Y2|fail):p:=h
section
variable {P:Program} {w0:Fr}{M0:Nat→Prop}{T:List (Nat×Cv)}{o:Oper}{d:SV}{Q:Exit→St→Prop}
variable {ops:Array Oper}{r:List Oper}{i t:Nat}{m:Nat}{l l':List (Nat×SV)}{ob:List (Nat×Ob)}{s':St}
theorem Sj {Q:St→Prop}{s s':St}(hs:Sub s' s)(h:j9 P w0 M0 ops Q r i s'):j9 P w0 M0 ops Q r i s:=by
 cases r with
 | nil=>obtain⟨s1,h1,h2⟩:=h;exact⟨s1,h1.trans hs,h2⟩
 | cons o r=>obtain⟨s1,h1,h2⟩:=h;exact⟨s1,h1.trans hs,h2⟩
theorem ZJ {Q:St→Prop}{c:fQ}{b:Bool}(hb:l.lookup t=some (.v c (.sc (.bool b))))(h1:b=true→j9 P w0 M0 ops Q r i ⟨m,ins t (.v c (.sc (.bool true))) l,ob⟩)(h0:b=false→j9 P w0 M0 ops Q r i ⟨m,ins t (.v c (.sc (.bool false))) l,ob⟩):j9 P w0 M0 ops Q r i ⟨m,l,ob⟩:=by
 have key:∀z,b=z→j9 P w0 M0 ops Q r i ⟨m,ins t (.v c (.sc (.bool z))) l,ob⟩→j9 P w0 M0 ops Q r i ⟨m,l,ob⟩:=fun z hz h=>Sj (s':=⟨m,ins t (.v c (.sc (.bool z))) l,ob⟩) ⟨rfl,rfl,fun u d hu=>by
  simp only at hu ⊢
  rw[ax] at hu
  split at hu
  ·rename_i q;subst q;cases hu;rw[hb,hz]
  ·exact hu⟩ h
 cases b
 ·exact key _ rfl (h0 rfl)
 ·exact key _ rfl (h1 rfl)
theorem oD {k:List Fm}{Q:Exit→St→Prop}{a:Array Oper}{d:SV}(hg:guardOf a (St.ev ⟨m,l,ob⟩) o=some true)(ht:o.dst=some t)(hn:Nat.blt t m=true)(hp:Pure P w0 M0 o (ff a o (St.ev ⟨m,l,ob⟩)) ob d)(hr:At P w0 M0 Q k (.drw a r (i+1)) ⟨m,ins t d l,ob⟩):At P w0 M0 Q k (.drw a (o :: r) i) ⟨m,l,ob⟩ :=
 have hn':t<m:=by simpa using hn
 ⟨_,Sub.refl _,.inl ⟨t,ht,hn',true,hg,d,fun _=>hp,fun h=>(by cases h),hr⟩⟩
def Go (P:Program)(w0:Fr)(M0:Nat→Prop)(Q:Exit→St→Prop)(T:List (Nat×Cv))(ns ids oids:List Nat)(k:List Fm)(cf:Cf)(s:St)(z:Prop):Prop:=fh P T→HM w0 M0→z→At P w0 M0 Q k cf s
variable {k k':List Fm}{cf cf':Cf}{s:St}{n n1:Nat}{ns ids oids:List Nat}{z:Prop}{a:Array Oper}{o':List (Nat×Ob)}
theorem ZC (h:QU T n ids oids cf k s=some (cf',k',⟨m,l,ob⟩)):Go P w0 M0 Q T [n] ids oids k cf s (At P w0 M0 Q k' cf' ⟨m,l,ob⟩):=fun hT hM hz=>tR hT hM n ids oids h hz
theorem ZB:Go P w0 M0 Q T [5000] ids oids k cf s (At P w0 M0 Q k cf s):=fun _ _ hz=>hz
theorem Zy {x y:Code}{b:Bool}{pt pf:Prop}(h:QU T n ids oids cf k s=some (.code (.cond (.tmp t) x y),k',⟨m,l,ob⟩))(hb:bj (St.ev ⟨m,l,ob⟩) (.tmp t)=some (.bool b))(ht:(b=true)=pt)(hf:(b=false)=pf) :
  Go P w0 M0 Q T [n+3000] ids oids k cf s ((pt→At P w0 M0 Q k' (.code (.cond (.tmp t) x y)) ⟨m,ins t (.v .pl (.sc (.bool true))) l,ob⟩)∧(pf→At P w0 M0 Q k' (.code (.cond (.tmp t) x y)) ⟨m,ins t (.v .pl (.sc (.bool false))) l,ob⟩)):=fun hT hM hz =>
 tR hT hM n ids oids h (YY t hb (fun h=>hz.1 (ht ▸ h)) (fun h=>hz.2 (hf ▸ h)))
def Rc (a:Array Oper)(o:Oper):Option Nat:=match o.guard with
 | some (j,_)=>(a[j]?).bind (·.dst)
 | none=>none
theorem Zz {b:Bool}{pt pf:Prop}(h:QU T n ids oids cf k s=some (.ops a (o :: r),k',⟨m,l,ob⟩))(hs:Rc a o=some t)(hb:bj (St.ev ⟨m,l,ob⟩) (.tmp t)=some (.bool b))(ht:(b=true)=pt)(hf:(b=false)=pf) :
  Go P w0 M0 Q T [n+4000] ids oids k cf s ((pt→At P w0 M0 Q k' (.ops a (o :: r)) ⟨m,ins t (.v .pl (.sc (.bool true))) l,ob⟩)∧(pf→At P w0 M0 Q k' (.ops a (o :: r)) ⟨m,ins t (.v .pl (.sc (.bool false))) l,ob⟩)):=fun hT hM hz =>
 tR hT hM n ids oids h (Zl t hb (fun h=>hz.1 (ht ▸ h)) (fun h=>hz.2 (hf ▸ h)))
theorem ZA {b:Bool}{c:fQ}{pt pf:Prop}(h:QU T n ids oids cf k s=some (.drw a (o :: r) i,k',⟨m,l,ob⟩))(hs:Rc a o=some t)(hb:l.lookup t=some (.v c (.sc (.bool b))))(ht:(b=true)=pt)(hf:(b=false)=pf) :
  Go P w0 M0 Q T [n+7000] ids oids k cf s ((pt→At P w0 M0 Q k' (.drw a (o :: r) i) ⟨m,ins t (.v c (.sc (.bool true))) l,ob⟩)∧(pf→At P w0 M0 Q k' (.drw a (o :: r) i) ⟨m,ins t (.v c (.sc (.bool false))) l,ob⟩)):=fun hT hM hz =>
 tR hT hM n ids oids h (ZJ hb (fun h=>hz.1 (ht ▸ h)) (fun h=>hz.2 (hf ▸ h)))
theorem W7 {rr r':RV}(h:xr T n cf k s=some (.done .ret,[],s'))(hr:(s'.s.lookup t).bind (bR s'.o)=some r'):Go P w0 M0 (yO t rr) T [n+8000] ids oids k cf s (r'=rr):=fun hT hM hz=>qZ (Q:=yO t rr) hT hM n cf k s _ h (OO hr hz)
theorem W8 {I:Nat→St→Prop}{mm:Nat}(h:QU T n ids oids cf k s=some (.done .normal,.loop I mm :: k',⟨m,l,ob⟩)):Go P w0 M0 Q T [n+9000] ids oids k cf s (∃m',I m' ⟨m,l,ob⟩∧m'<mm):=fun hT hM hz=>tR hT hM n ids oids h (nx hz)
theorem W9 {R:St→Prop}(h:QU T n ids oids cf k s=some (.done .normal,.cut R :: k',⟨m,l,ob⟩)):Go P w0 M0 Q T [n+10000] ids oids k cf s (R ⟨m,l,ob⟩):=fun hT hM hz=>tR hT hM n ids oids h (cx hz)
theorem ZD {s':St}(h:xr T n cf k s=some (.ops a (o :: r),k',⟨m,l,ob⟩))(hg:guardOf a (St.ev ⟨m,l,ob⟩) o=some true)(hp:SG P w0 M0 T o ⟨m,l,ob⟩ s':=by first|exact Y3|fail)
  (hn:s'.n=m:=by rfl)(hl:fS s'.s (fun l=>some l)=some l':=by rfl)(ho:fO s'.o (fun l=>some l)=some o':=by rfl)(hr:Go P w0 M0 Q T (n1 :: ns) ids oids k' (.ops a r) ⟨m,l',o'⟩ z:=by first|exact gw|fail):Go P w0 M0 Q T ((n+1000) :: n1 :: ns) ids oids k cf s z:=fun hT hM hz=>by
 rw[Li] at hl;rw[wR] at ho;cases hl;cases ho
 obtain⟨mm,sl,oo⟩:=s'
 simp only at hn
 subst hn
 exact qZ hT hM n cf k s _ h ⟨_,fJ.refl _,_,.inl ⟨hg,hp hT hM⟩,hr hT hM hz⟩
theorem ZF {i:Nat}(h:xr T (n-2000) cf k s=some (.code (.region i a true),k',s'))(hx:Nat.ble 2000 n=true:=by rfl)(hok:mY a=true:=by kernel_rfl)(hr:Go P w0 M0 Q T (n1 :: ns) ids oids k' (.drw a a.toList 0) s' z:=by first|exact gw|fail):Go P w0 M0 Q T (n :: n1 :: ns) ids oids k cf s z:=fun hT hM hz =>
 qZ hT hM _ cf k s _ h (tL hT.2 hok _ rfl (hr hT hM hz))
theorem ZE (h:xr T n cf k s=some (.drw a (o :: r) i,k',⟨m,l,ob⟩))(hg:guardOf a (St.ev ⟨m,l,ob⟩) o=some true)(ht:o.dst=some t)(hn:Nat.blt t m=true)(hp:PG P w0 M0 T o (ff a o (St.ev ⟨m,l,ob⟩)) ob d:=by first|exact Y2|fail)(hl:Bb t d l some=some l':=by rfl)(hr:Go P w0 M0 Q T (n1 :: ns) ids oids k' (.drw a r (i+1)) ⟨m,l',ob⟩ z:=by first|exact gw|fail):Go P w0 M0 Q T ((n+6000) :: n1 :: ns) ids oids k cf s z:=fun hT hM hz=>by
 rw[og] at hl;cases hl
 exact qZ hT hM n cf k s _ h (oD hg ht hn (hp hT hM) (hr hT hM hz))
theorem ZG (h:xr T n cf k s=some (.ops a (o :: r),k',⟨m,l,ob⟩))(hd:C2 a o ⟨m,l,ob⟩=some t)(hp:PG P w0 M0 T o (St.ev ⟨m,l,ob⟩) ob d:=by first|exact ZH|fail)
  (hl:Bb t d l some=some l':=by rfl)(hr:Go P w0 M0 Q T (n1 :: ns) ids oids k' (.ops a r) ⟨m,l',ob⟩ z:=by first|exact gw|fail):Go P w0 M0 Q T (n :: n1 :: ns) ids oids k cf s z:=fun hT hM hz=>by
 rw[og] at hl;cases hl
 exact qZ hT hM n cf k s _ h (oP hd (hp hT hM) (hr hT hM hz))
theorem dU {f : Nat} {F : Func} (t : Nat) (h : P.funcs[f]? = some F) (h1 : F.body = some (F.body.getD .skip) := by rfl) (h2 : F.results = #[.tmp t] := by rfl) (h3 : (F.name == "runtime.NumGoroutine") = false := by kernel_rfl) : G3 P f F.ntmps t (F.body.getD .skip) := ⟨F, h, h1, rfl, h2, h3⟩
theorem cF {f n t:Nat}{c:Code}(hf:G3 P f n t c){ds:List AV}{r:RV}(h:∀(w0:Fr)(M0:Nat→Prop),(∀b,M0 b→b<w0.w.heap.size)→ao P w0 M0 c (St.enter n .mx ds) (yO t r))(hn:ds.length≤n:=by exact ZZ rfl):aq P f ds r:=yP hf hn h
theorem cN {f n t:Nat}{c:Code}(hf:G3 P f n t c){ds:List AV}{r:RV}(h:∀(w0:Fr)(M0:Nat→Prop),(∀b,M0 b→b<w0.w.heap.size)→ao P w0 M0 c (St.enter n .pl ds) (yO t r))(hn:ds.length≤n:=by exact ZZ rfl):aX P f ds r:=yQ hf hn h
section calls
variable {cx:Operand} {args:Array Operand}{ats:Array TypeId}{c c':fQ}{f:FuncId}{caps ds:List AV}{rv:RV}
theorem oC (hd:C2 a o ⟨m,l,ob⟩=some t)(ho:o.op=.call { callee:=.value cx,args:=args,argTypes:=ats })(hc:St.ev ⟨m,l,ob⟩ cx=some (.v c (.clo f caps)))(ha:jd (St.ev ⟨m,l,ob⟩) ob args.toList=some ds)(h:aq P f (ds++caps) rv)(hr:At P w0 M0 Q k (.ops a r) ⟨m,ins t (.v .pl rv.data) l,ob⟩)(hM:HM w0 M0:=by exact aa):At P w0 M0 Q k (.ops a (o :: r)) ⟨m,l,ob⟩:=oP hd (cm ho hc ha h hM) hr
theorem oN (hd:C2 a o ⟨m,l,ob⟩=some t)(ho:o.op=.call { callee:=.value cx,args:=args,argTypes:=ats })(hc:St.ev ⟨m,l,ob⟩ cx=some (.v c' (.clo f caps)))(ha:iT (St.ev ⟨m,l,ob⟩) ob args.toList=some (c,ds))(hcap:caps=[])(h:aX P f ds rv)(hr:At P w0 M0 Q k (.ops a r) ⟨m,ins t (.v c rv.data) l,ob⟩)(hM:HM w0 M0:=by exact aa):At P w0 M0 Q k (.ops a (o :: r)) ⟨m,l,ob⟩:=oP hd (bG ho hc ha hcap h hM) hr
theorem oE (hg:guardOf a (St.ev ⟨m,l,ob⟩) o=some true)(ht:o.dst=some t)(hn:Nat.blt t m=true)(ho:o.op=.call { callee:=.value cx,args:=args,argTypes:=ats })(hc:ff a o (St.ev ⟨m,l,ob⟩) cx=some (.v c (.clo f caps)))(ha:jd (ff a o (St.ev ⟨m,l,ob⟩)) ob args.toList=some ds)(h:aq P f (ds++caps) rv)(hr:At P w0 M0 Q k (.drw a r (i+1)) ⟨m,ins t (.v .pl rv.data) l,ob⟩)(hM:HM w0 M0:=by exact aa):At P w0 M0 Q k (.drw a (o :: r) i) ⟨m,l,ob⟩:=oD hg ht hn (cm ho hc ha h hM) hr
theorem oF (hg:guardOf a (St.ev ⟨m,l,ob⟩) o=some true)(ht:o.dst=some t)(hn:Nat.blt t m=true)(ho:o.op=.call { callee:=.value cx,args:=args,argTypes:=ats })(hc:ff a o (St.ev ⟨m,l,ob⟩) cx=some (.v c' (.clo f caps)))(ha:iT (ff a o (St.ev ⟨m,l,ob⟩)) ob args.toList=some (c,ds))(hcap:caps=[])(h:aX P f ds rv)(hr:At P w0 M0 Q k (.drw a r (i+1)) ⟨m,ins t (.v c rv.data) l,ob⟩)(hM:HM w0 M0:=by exact aa):At P w0 M0 Q k (.drw a (o :: r) i) ⟨m,l,ob⟩:=oD hg ht hn (bG ho hc ha hcap h hM) hr
end calls
theorem xe {Q:St→Prop}{L:Array Bool}(i:Nat)(h:o5 P w0 M0 ops Q n (L.setIfInBounds i true) (s.put t d))(hT:fh P T:=by exact tb)(hM:HM w0 M0:=by exact aa)(hr:Region.ready .any ops L=[i]:=by kernel_rfl)(ho:ops[i]?=some o:=by rfl)(hg:o.guard=none:=by rfl)(hd:o.dst=some t:=by rfl)(hn:Nat.blt t s.n=true:=by rfl)(hp:PG P w0 M0 T o s.ev s.o d:=by first|exact ZI|fail):o5 P w0 M0 ops Q (n+1) L s:=aH hr ho hg (aL hd hn (hp hT hM)) h
theorem xf {Q:St→Prop}{L:Array Bool}(i:Nat)(h:o5 P w0 M0 ops Q n (L.setIfInBounds i true) s')(hT:fh P T:=by exact tb)(hM:HM w0 M0:=by exact aa)(hr:Region.ready .any ops L=[i]:=by kernel_rfl)(ho:ops[i]?=some o:=by rfl)(hg:o.guard=none:=by rfl)(hp:SG P w0 M0 T o s s':=by first|exact Y3|fail):o5 P w0 M0 ops Q (n+1) L s:=aH hr ho hg (hp hT hM) h
variable {z1 z2:Prop}{c:Code}
theorem wA (ns ids oids:List Nat)(q:z)(hT:fh P T:=by exact tb)(hM:HM w0 M0:=by exact aa)(h:Go P w0 M0 Q T ns ids oids k cf s z:=by first|exact gw|fail):At P w0 M0 Q k cf s:=h hT hM q
theorem wS (ns ids oids:List Nat)(q1:z1)(q2:z2)(hT:fh P T:=by exact tb)(hM:HM w0 M0:=by exact aa)(h:Go P w0 M0 Q T ns ids oids k cf s (z1∧z2):=by first|exact gw|fail):At P w0 M0 Q k cf s:=h hT hM ⟨q1,q2⟩
theorem wZ (ns:List Nat)(q:z)(hT:fh P T:=by exact tb)(hM:HM w0 M0:=by exact aa)(h:Go P w0 M0 Q T ns [] [] k cf s z:=by first|exact gw|fail):At P w0 M0 Q k cf s:=h hT hM q
theorem c6 (ns ids oids:List Nat)(q:z)(hT:fh P T:=by exact tb)(hM:HM w0 M0:=by exact aa)(h:Go P w0 M0 Q T ns ids oids [] (.code c) s z:=by first|exact gw|fail):ao P w0 M0 c s Q:=h hT hM q
theorem rM (ns ids oids:List Nat)(q1:z1)(q2:z2)(hT:fh P T:=by exact tb)(hM:HM w0 M0:=by exact aa)(h:Go P w0 M0 Q T ns ids oids [] (.code c) s (z1∧z2):=by first|exact gw|fail):ao P w0 M0 c s Q:=h hT hM ⟨q1,q2⟩
theorem zM (ns:List Nat)(q:z)(hT:fh P T:=by exact tb)(hM:HM w0 M0:=by exact aa)(h:Go P w0 M0 Q T ns [] [] [] (.code c) s z:=by first|exact gw|fail):ao P w0 M0 c s Q:=h hT hM q
theorem gS (ns ids oids:List Nat)(q:z)(hT:fh P T:=by exact tb)(hM:HM w0 M0:=by exact aa)(h:Go P w0 M0 Q T ns ids oids k (.code c) s z:=by first|exact gw|fail):ao P w0 M0 c s (toQ P w0 M0 Q k):=h hT hM q
theorem Ug (ns ids oids:List Nat)(q1:z1)(q2:z2)(hT:fh P T:=by exact tb)(hM:HM w0 M0:=by exact aa)(h:Go P w0 M0 Q T ns ids oids k (.code c) s (z1∧z2):=by first|exact gw|fail):ao P w0 M0 c s (toQ P w0 M0 Q k):=h hT hM ⟨q1,q2⟩
theorem Cw (ns:List Nat)(q:z)(hT:fh P T:=by exact tb)(hM:HM w0 M0:=by exact aa)(h:Go P w0 M0 Q T ns [] [] k (.code c) s z:=by first|exact gw|fail):ao P w0 M0 c s (toQ P w0 M0 Q k):=h hT hM q
theorem WH {a:Array Oper}{r:List Oper}(ns ids oids:List Nat)(q:z)(hT:fh P T:=by exact tb)(hM:HM w0 M0:=by exact aa)(h:Go P w0 M0 Q T ns ids oids k (.ops a r) s z:=by first|exact gw|fail):ki P w0 M0 a (toQ P w0 M0 Q k .normal) r s:=h hT hM q
theorem FC {a:Array Oper}{r:List Oper}(ns:List Nat)(q:z)(hT:fh P T:=by exact tb)(hM:HM w0 M0:=by exact aa)(h:Go P w0 M0 Q T ns [] [] k (.ops a r) s z:=by first|exact gw|fail):ki P w0 M0 a (toQ P w0 M0 Q k .normal) r s:=h hT hM q
theorem jl {e:Exit}(ns ids oids:List Nat)(q:z)(hT:fh P T:=by exact tb)(hM:HM w0 M0:=by exact aa)(h:Go P w0 M0 Q T ns ids oids k (.done e) s z:=by first|exact gw|fail):toQ P w0 M0 Q k e s:=h hT hM q
theorem ZK {e:Exit}(ns ids oids:List Nat)(q1:z1)(q2:z2)(hT:fh P T:=by exact tb)(hM:HM w0 M0:=by exact aa)(h:Go P w0 M0 Q T ns ids oids k (.done e) s (z1∧z2):=by first|exact gw|fail):toQ P w0 M0 Q k e s:=h hT hM ⟨q1,q2⟩
theorem Cx {e:Exit}(ns:List Nat)(q:z)(hT:fh P T:=by exact tb)(hM:HM w0 M0:=by exact aa)(h:Go P w0 M0 Q T ns [] [] k (.done e) s z:=by first|exact gw|fail):toQ P w0 M0 Q k e s:=h hT hM q
end
end Go.Am
namespace Go.Wb
open Go.Am
inductive Rx where
 | mk (kind:Int)(syms:List Int)(kids:List Rx)
def Rx.kind:Rx→Int|.mk k _ _=>k
def Rx.syms:Rx→List Int|.mk _ s _=>s
def Rx.kids:Rx→List Rx|.mk _ _ l=>l
instance:Inhabited Rx:=⟨.mk 0 [] []⟩
theorem Rx.eta (r:Rx):r=.mk r.kind r.syms r.kids:=by cases r;rfl
mutual
def Rx.av:Rx→AV
 | .mk k s l=>.agg [int k,ints s,.sl (Rx.gi l)]
def Rx.gi:List Rx→List AV
 | []=>[]
 | x :: l=>x.av :: Rx.gi l
end
def rx (r:Rx):AV:=.agg [int r.kind,ints r.syms,.sl (Rx.gi r.kids)]
abbrev gJ (l:List Rx):AV:=.sl (l.map rx)
theorem Uh (r:Rx):r.av=rx r:=by cases r with|mk k s l=>rw[Rx.av];rfl
theorem xi:∀ l:List Rx,Rx.gi l=l.map rx
 | []=>by rw[Rx.gi];rfl
 | x :: l=>by rw[Rx.gi,xi l,Uh];rfl
theorem fi (r:Rx):rx r=.agg [int r.kind,ints r.syms,gJ r.kids]:=by unfold rx;rw[xi]
abbrev pz (r:Rx):AV:=.pc [int r.kind,ints r.syms,gJ r.kids] 0
mutual
def Rx.size:Rx→Nat
 | .mk _ s l=>1+s.length+Rx.aB l
def Rx.aB:List Rx→Nat
 | []=>0
 | x :: l=>x.size+Rx.aB l
end
theorem gp:∀ {l:List Rx}{x:Rx},x∈l→x.size≤Rx.aB l
 | y :: l, x, h => by
   rw[Rx.aB]
   rcases aah.1 h with rfl|h
   · omega
   · have:=gp h;omega
theorem dd {r x:Rx}(h:x∈r.kids):x.size<r.size:=by
 cases r with|mk k s l=>rw[Rx.size];have:=gp (l:=l) h;omega
theorem size_pos (r:Rx):1≤r.size:=by cases r with|mk k s l=>rw[Rx.size];omega
theorem aP {l:List Rx}{i:Nat}(h:i<l.length):l.getD i default∈l:=by
 rw[ZY,Z3 h];exact aa4 h
theorem hU {r:Rx}{i:Nat}(h:i<r.kids.length):(r.kids.getD i default).size<r.size:=dd (aP h)
theorem drop_cons {α:Type} [Inhabited α]{l:List α}{k:Nat}(h:k<l.length):l.drop k=l.getD k default :: l.drop (k+1):=by
 rw[abh h,ZY,Z3 h];rfl
theorem dj:∀ l:List Rx,l.length≤Rx.aB l
 | []=>Z5 _
 | x :: l=>by rw[Rx.aB,Z2];have:=dj l;have:=size_pos x;omega
theorem size_eq (r:Rx):r.size=1+r.syms.length+Rx.aB r.kids:=by cases r with|mk k s l=>rw[Rx.size];rfl
theorem eA (r:Rx):r.syms.length<r.size:=by rw[size_eq];omega
theorem dX (r:Rx):r.kids.length<r.size:=by rw[size_eq];have:=dj r.kids;omega
theorem xj {l:List Rx}{i:Nat}(h:i<l.length):Rx.aB (l.drop i)=(l.getD i default).size+Rx.aB (l.drop (i+1)):=by
 rw[drop_cons h,Rx.aB]
def vM (l:List Int)(j:Nat):Prop:=0≤l.getD j default∧l.getD j default<64∧(0<j→l.getD ((j:Int)-1).toNat default<l.getD j default)
instance (l:List Int)(j:Nat):Decidable (vM l j):=by unfold vM;exact inferInstance
def jS (l:List Int):Bool:=decide (0<l.length∧∀j,j<l.length→vM l j)
theorem De {l:List Int}{k:Nat}(hk:k<l.length)(h:¬vM l k):false=jS l:=by
 symm;unfold jS;rw[decide_eq_false_iff_not];exact fun q=>h (q.2 k hk)
theorem zN {l:List Int}(h:∀j,j<l.length→vM l j):jS l=decide (0<l.length):=by
 unfold jS;exact decide_eq_decide.2 ⟨fun q=>q.1,fun q=>⟨q,h⟩⟩
theorem b7 {P:Nat→Prop}{k:Nat}(h:∀j,j<k→P j)(h2:P k):∀j,j<k+1→P j:=fun j hj=>by
 rcases Nat.lt_or_eq_of_le (Nat.lt_succ_iff.1 hj) with q|rfl
 ·exact h j q
 ·exact h2
def bQ (a b:Int):Int:=if a<b then -1 else if b<a then 1 else 0
def nr (c d:Int):Int:=if c=0 then d else c
def bB:List Int→List Int→Int
 | [],[]=>0
 | [],_ :: _=>-1
 | _ :: _,[]=>1
 | x :: xs,y :: ys=>nr (bQ x y) (bB xs ys)
mutual
def de:Rx→Rx→Int
 | .mk k s l,b=>nr (bQ k b.kind) (nr (bB s b.syms) (cE l b.kids))
def cE:List Rx→List Rx→Int
 | [],[]=>0
 | [],_ :: _=>-1
 | _ :: _,[]=>1
 | x :: xs,y :: ys=>nr (de x y) (cE xs ys)
end
theorem sS (a b:Rx):de a b=nr (nr (bQ a.kind b.kind) (bB a.syms b.syms)) (cE a.kids b.kids):=by
 cases a with|mk k s l =>
 rw[de];show _=nr (nr (bQ k _) (bB s _)) (cE l _)
 unfold nr;split<;>simp_all
theorem pA {a b:List Int}{k:Nat}(ha:k<a.length)(hb:k<b.length):bB (a.drop k) (b.drop k)=nr (bQ (a.getD k default) (b.getD k default)) (bB (a.drop (k+1)) (b.drop (k+1))):=by
 rw[drop_cons ha,drop_cons hb];rfl
theorem oj {a b:List Int}{k:Nat}(h:a.length≤k∨b.length≤k)(ha:k≤a.length)(hb:k≤b.length):bB (a.drop k) (b.drop k)=bQ a.length b.length:=by
 unfold bQ
 rcases aaq k a.length with h1|h1
 ·have h2:b.length≤k:=ace
  rw[drop_cons h1,aaU h2,if_neg ace,if_pos ace];rfl
 ·rw[aaU h1]
  rcases aaq k b.length with h2|h2
  ·rw[drop_cons h2,if_pos ace];rfl
  ·rw[aaU h2,if_neg ace,if_neg ace];rfl
theorem rN {a b:List Rx}{k:Nat}(ha:k<a.length)(hb:k<b.length):cE (a.drop k) (b.drop k)=nr (de (a.getD k default) (b.getD k default)) (cE (a.drop (k+1)) (b.drop (k+1))):=by
 rw[drop_cons ha,drop_cons hb,cE]
theorem qo {a b:List Rx}{k:Nat}(h:a.length≤k∨b.length≤k)(ha:k≤a.length)(hb:k≤b.length):cE (a.drop k) (b.drop k)=bQ a.length b.length:=by
 unfold bQ
 rcases aaq k a.length with h1|h1
 ·have h2:b.length≤k:=ace
  rw[drop_cons h1,aaU h2,if_neg ace,if_pos ace,cE]
 ·rw[aaU h1]
  rcases aaq k b.length with h2|h2
  ·rw[drop_cons h2,if_pos ace,cE]
  ·rw[aaU h2,if_neg ace,if_neg ace,cE]
theorem lT {c d:Int}(h:c=0):nr c d=d:=if_pos h
theorem Bq {c d:Int}(h:¬c=0):nr c d=c:=if_neg h
theorem Hj {T c d:Int}(h:T=nr c d)(hc:¬c=0):c=T:=by rw[h,Bq hc]
theorem O3 {T c:Int}{a b:List Int}{i:Nat}(h:T=nr c (bB (a.drop i) (b.drop i)))(hc:c=0)(ha:i≤a.length)(hb:i≤b.length)(hi:a.length≤i∨b.length≤i):bQ a.length b.length=T:=by
 rw[h,lT hc,oj hi ha hb]
theorem O4 {T c:Int}{a b:List Rx}{i:Nat}(h:T=nr c (cE (a.drop i) (b.drop i)))(hc:c=0)(ha:i≤a.length)(hb:i≤b.length)(hi:a.length≤i∨b.length≤i):bQ a.length b.length=T:=by
 rw[h,lT hc,qo hi ha hb]
theorem LQ {T c:Int}{a b:List Int}{i:Nat}(h:T=nr c (bB (a.drop i) (b.drop i)))(hc:c=0)(ha:i<a.length)(hb:i<b.length):T=nr (bQ (a.getD i default) (b.getD i default)) (bB (a.drop (i+1)) (b.drop (i+1))):=by
 rw[h,lT hc,pA ha hb]
theorem LR {T c:Int}{a b:List Rx}{i:Nat}(h:T=nr c (cE (a.drop i) (b.drop i)))(hc:c=0)(ha:i<a.length)(hb:i<b.length):T=nr (de (a.getD i default) (b.getD i default)) (cE (a.drop (i+1)) (b.drop (i+1))):=by
 rw[h,lT hc,rN ha hb]
mutual
def aQ:Rx→Bool
 | .mk k s l=>if k<0∨5<k then false else if k=2 then jS s&&decide (l.length=0) else
  if 0<s.length∨(k≤1∧0<l.length)∨(k=5∧l.length≠1) then false else lv l
def lv:List Rx→Bool
 | []=>true
 | x :: l=>aQ x&&lv l
end
theorem fA (r:Rx):aQ r=if r.kind<0∨5<r.kind then false else if r.kind=2 then jS r.syms&&decide (r.kids.length=0) else
  if 0<r.syms.length∨(r.kind≤1∧0<r.kids.length)∨(r.kind=5∧r.kids.length≠1) then false else lv r.kids:=by
 cases r with|mk k s l=>rw[aQ];rfl
theorem hZ:∀ l:List Rx,lv l=l.all aQ
 | []=>by rw[lv];rfl
 | x :: l=>by rw[lv,hZ l];rfl
theorem FD {l:List Rx}{i:Nat}(h:i<l.length)(hv:aQ (l.getD i default)=false):lv l=false:=by
 rw[hZ,List.all_eq_false];exact⟨_,aP h,by rw[hv];exact Bool.false_ne_true⟩
theorem Df {l:List Rx}(h:∀j,j<l.length→aQ (l.getD j default)=true):lv l=true:=by
 rw[hZ,aam]
 intro x hx
 obtain⟨j,hj,rfl⟩:=aaR hx
 have:=h j hj
 rwa [ZY,Z3 hj] at this
def eB {α:Type} [Inhabited α](p:α→Bool)(l:List α):Int:=if l.any p then(l.findIdx p:Nat) else -1
theorem FE {α:Type} [Inhabited α]{p:α→Bool}{l:List α}(h:∀j,j<l.length→p (l.getD j default)=false):l.any p=false:=by
 rw[abe]
 intro x hx
 obtain⟨j,hj,rfl⟩:=aaR hx
 have:=h j hj
 rw[ZY,Z3 hj] at this
 exact fun q=>by rw[abK] at this;rw[q] at this;exact absurd this acg
theorem lD {α:Type} [Inhabited α]{p:α→Bool}{l:List α}(h:∀j,j<l.length→p (l.getD j default)=false):-1=eB p l:=by
 unfold eB;rw[FE h];rfl
theorem nt {α:Type} [Inhabited α]{p:α→Bool}{l:List α}{k:Nat}(hk:k<l.length)(h:∀j,j<k→p (l.getD j default)=false)(hp:p (l.getD k default)=true):(k:Int)=eB p l:=by
 have hg:l.getD k default=l[k]:=by rw[ZY,Z3 hk];rfl
 rw[hg] at hp
 unfold eB
 rw[if_pos (aay.2 ⟨_,aa4 hk,hp⟩)]
 have h1:l.findIdx p=k:=by
  refine(List.findIdx_eq hk).2 ⟨hp,fun j hj=>?_⟩
  have:=h j hj
  rwa [ZY,Z3 ace] at this
 rw[h1]
theorem vU {α:Type} [Inhabited α](p:α→Bool)(l:List α):decide (0≤eB p l)=l.any p:=by
 unfold eB;split
 ·rename_i h;rw[h];exact decide_eq_true ace
 ·rename_i h;rw[Bool.not_eq_true] at h;rw[h];rfl
mutual
def cP:Rx→Bool
 | .mk k _ l=>if k=3 then xk l else if k=4 then xl l else decide (k=1∨k=5)
def xk:List Rx→Bool
 | []=>true
 | x :: l=>cP x&&xk l
def xl:List Rx→Bool
 | []=>false
 | x :: l=>cP x||xl l
end
theorem zO:∀ l:List Rx,xk l=l.all cP
 | []=>by rw[xk];rfl
 | x :: l=>by rw[xk,zO l];rfl
theorem zP:∀ l:List Rx,xl l=l.any cP
 | []=>by rw[xl];rfl
 | x :: l=>by rw[xl,zP l];rfl
theorem qp (r:Rx):cP r=if r.kind=3 then r.kids.all cP else if r.kind=4 then r.kids.any cP else decide (r.kind=1∨r.kind=5):=by
 cases r with|mk k s l=>rw[cP,zO,zP];rfl
theorem Sk {p:Rx→Bool}{l:List Rx}{i:Nat}(h:i<l.length)(hv:p (l.getD i default)=false):l.all p=false:=by
 rw[List.all_eq_false];exact⟨_,aP h,by rw[hv];exact Bool.false_ne_true⟩
theorem O5 {p:Rx→Bool}{l:List Rx}(h:∀j,j<l.length→p (l.getD j default)=true):l.all p=true:=by
 rw[aam]
 intro x hx
 obtain⟨j,hj,rfl⟩:=aaR hx
 have:=h j hj
 rwa [ZY,Z3 hj] at this
theorem Hk {p:Rx→Bool}{l:List Rx}{i:Nat}(h:i<l.length)(hv:p (l.getD i default)=true):l.any p=true :=
 aay.2 ⟨_,aP h,hv⟩
theorem pC {p:Rx→Bool}(l:List Rx):l.all p=!(l.any fun x=>!p x):=by
 induction l with
 | nil=>rfl
 | cons x l ih=>rw[List.all_cons,List.any_cons,ih];cases p x<;>cases l.any _<;>rfl
theorem jC {r:Rx}(h:r.kind=0∨r.kind=1):aQ r=(decide (r.syms.length=0)&&decide (r.kids.length=0)):=by
 rw[fA,if_neg ace,if_neg ace]
 by_cases h1:r.syms.length=0<;>by_cases h2:r.kids.length=0
 ·rw[if_neg ace,decide_eq_true h1,decide_eq_true h2,hZ,List.length_eq_zero_iff.1 h2];rfl
 ·rw[if_pos ace,decide_eq_false h2,abi]
 ·rw[if_pos ace,decide_eq_false h1,abc]
 ·rw[if_pos ace,decide_eq_false h1,abc]
theorem lU {r:Rx}(h:r.kind=2):aQ r=(decide (r.kids.length=0)&&jS r.syms):=by
 rw[fA,if_neg ace,if_pos h,Bool.and_comm]
theorem iW {r:Rx}(h:r.kind=5):aQ r=(decide (r.syms.length=0)&&(decide (r.kids.length=1)&&aQ (r.kids.getD 0 default))):=by
 rw[fA,if_neg ace,if_neg ace]
 by_cases h1:r.syms.length=0<;>by_cases h2:r.kids.length=1
 ·rw[if_neg ace,decide_eq_true h1,decide_eq_true h2,hZ]
  obtain⟨x,hx⟩:=List.length_eq_one_iff.1 h2
  rw[hx];simp
 ·rw[if_pos ace,decide_eq_false h2,abc,abi]
 ·rw[if_pos ace,decide_eq_false h1,abc]
 ·rw[if_pos ace,decide_eq_false h1,abc]
theorem lE {r:Rx}(h:r.kind=3∨r.kind=4):aQ r=(decide (r.syms.length=0)&&!(r.kids.any fun x=>!aQ x)):=by
 rw[fA,if_neg ace,if_neg ace]
 by_cases h1:r.syms.length=0
 ·rw[if_neg ace,decide_eq_true h1,hZ,pC,aaZ]
 ·rw[if_pos ace,decide_eq_false h1,abc]
theorem tV {r:Rx}(h:r.kind<0∨5<r.kind):aQ r=false:=by rw[fA,if_pos h]
end Go.Wb
