/-
  Plain functions: the first good word: the shortest,and of these the first.
-/
import Derived.Test.YtjimlkpfmbachaaGreatJ11
import Derived.Test.YtjimlkpfmbachaaGreatJ12
import Derived.Test.YtjimlkpfmbachaaGreatJ6
set_option linter.unusedVariables false
set_option linter.unusedSectionVars false
set_option linter.unusedSimpArgs false
namespace Go.Wd
open Go.Am
theorem el_get {α:Type} [Inhabited α] {l:List α} {i:Nat} (h:i<l.length):l.getD i default=l[i]:=by rw [List.getD_eq_getElem?_getD,List.getElem?_eq_getElem h];rfl
theorem el_mem {α:Type} [Inhabited α] {l:List α} {i:Nat} (h:i<l.length):l.getD i default∈l:=by rw [el_get h];exact List.getElem_mem h
/-! ### validity -/
def pOut (n:Nat) (x:Int):Bool:=decide (x<0)||decide ((n:Int)≤x)
abbrev headD (d:Dfa):Prop:=(1≤d.size∧d.size≤64)∧(1≤d.next.length∧d.next.length≤2048)∧d.fin.length=d.next.length
theorem okRow_any {n:Nat} {size:Int} {r:List Int} (h1:(r.length:Int)=size) (h:r.any (pOut n)=false):okRow n size r:=by
  refine ⟨h1,fun x hx=>?_⟩
  have:=List.any_eq_false.1 h x hx
  unfold pOut at this
  simp only [Bool.or_eq_true,decide_eq_true_eq,not_or] at this
  omega
theorem okRow_no {n:Nat} {size:Int} {r:List Int} (h:r.any (pOut n)=true):¬ okRow n size r:=fun q=>by
  obtain ⟨x,hx,hp⟩:=List.any_eq_true.1 h
  have:=q.2 x hx
  unfold pOut at hp
  simp only [Bool.or_eq_true,decide_eq_true_eq] at hp
  omega
theorem vd_head {d:Dfa} (h:¬ headD d):validD d=false:=decide_eq_false fun q=>h q.1
theorem vd_row {d:Dfa} {i:Nat} (hi:i<d.next.length) (h:¬ okRow d.next.length d.size (d.next.getD i default)):validD d=false:=decide_eq_false fun q=>h (q.2 _ (el_mem hi))
theorem vd_len {d:Dfa} {i:Nat} (hi:i<d.next.length) (h:¬ ((d.next.getD i default).length:Int)=d.size):validD d=false:=vd_row hi fun q=>h q.1
theorem vd_any {d:Dfa} {i:Nat} (hi:i<d.next.length) (h:(d.next.getD i default).any (pOut d.next.length)=true):validD d=false:=vd_row hi (okRow_no h)
theorem vd_all {d:Dfa} (h0:headD d) (h:∀ i,i<d.next.length→okRow d.next.length d.size (d.next.getD i default)):validD d=true:=decide_eq_true ⟨h0,fun r hr=>by
  obtain ⟨i,hi,rfl⟩:=List.getElem_of_mem hr
  have:=h i hi
  rwa [el_get hi] at this⟩
theorem vd_at {d:Dfa} {i k:Nat} (hi:i<d.next.length) (hk:k<(d.next.getD i default).length) (h:(d.next.getD i default).getD k default<0∨(d.next.length:Int)≤(d.next.getD i default).getD k default):validD d=false :=
  vd_row hi fun q=>by have:=q.2 _ (el_mem hk);omega
theorem okRow_of {n:Nat} {size:Int} {r:List Int} (h1:(r.length:Int)=size) (h:∀ k,k<r.length→0≤r.getD k default∧r.getD k default<n):okRow n size r:=⟨h1,fun x hx=>by
  obtain ⟨i,hi,rfl⟩:=List.getElem_of_mem hx
  have:=h i hi
  rwa [el_get hi] at this⟩
theorem valid_ok {d:Dfa} (h:validD d=true):okD d:=of_decide_eq_true h
theorem ok_valid {d:Dfa} (h:okD d):validD d=true:=decide_eq_true h
theorem okD.row {d:Dfa} (h:okD d) {i:Nat} (hi:i<d.next.length):okRow d.next.length d.size (d.next.getD i default):=h.2 _ (el_mem hi)
theorem okD.cell {d:Dfa} (h:okD d) {i k:Nat} (hi:i<d.next.length) (hk:(k:Int)<d.size):0≤(d.next.getD i default).getD k default∧(d.next.getD i default).getD k default<d.next.length:=by
  have h1:=h.row hi
  exact h1.2 _ (el_mem (by have:=h1.1;omega))
theorem okD.cellN {d:Dfa} (h:okD d) {i k:Nat} (hi:i<d.next.length) (hk:(k:Int)<d.size):(d.next.getD i default).getD k default=(d.stp i k:Int):=by
  have:=h.cell hi hk
  unfold Dfa.stp
  omega
/-! ### keys -/
abbrev natI (n:Nat):AV:=int (n:Int)
abbrev nats (l:List Nat):AV:=.sl (l.map natI)
def kbI (n:Int):List Int:=[n % 256,(n / 256) % 256,(n / 65536) % 256]
def kbs (l:List Nat):List Int:=l.flatMap fun n:Nat=>kbI (n:Int)
def kbS (s:Sig):List Int:=(kbI s.1++if s.2.1=true then [1] else [])++kbs s.2.2
def strI (l:List Int):Value:=.string ⟨(l.map fun n=>UInt8.ofNat n.toNat).toArray⟩
theorem kb_eq (n:Int):[IntKind.u8.wrap n,IntKind.u8.wrap (n.fdiv (2 ^ (min (8:Int).toNat IntKind.i64.bits))),IntKind.u8.wrap (n.fdiv (2 ^ (min (16:Int).toNat IntKind.i64.bits)))]=kbI n:=by
  have e1:n.fdiv (2 ^ (min (8:Int).toNat IntKind.i64.bits))=n / 256:=by
    show n.fdiv 256=_
    rw [Int.fdiv_eq_ediv_of_nonneg _ (by omega)]
  have e2:n.fdiv (2 ^ (min (16:Int).toNat IntKind.i64.bits))=n / 65536:=by
    show n.fdiv 65536=_
    rw [Int.fdiv_eq_ediv_of_nonneg _ (by omega)]
  rw [e1,e2];rfl
theorem kbI_inj {a b:Nat} (ha:a<16777216) (hb:b<16777216) (h:kbI a=kbI b):a=b:=by
  unfold kbI at h
  injection h with h1 h
  injection h with h2 h
  injection h with h3 h
  omega
theorem kbI_len (n:Int):(kbI n).length=3:=rfl
theorem kbI_byte (n:Int):∀ x∈kbI n,0≤x∧x<256:=fun x hx=>by
  unfold kbI at hx
  simp only [List.mem_cons,List.not_mem_nil,or_false] at hx
  omega
theorem kbs_snoc (l:List Nat) (n:Nat):kbs (l++[n])=kbs l++kbI n:=by unfold kbs;rw [List.flatMap_append];simp
theorem kbs_len:∀ l:List Nat,(kbs l).length=3*l.length
  | []=>rfl
  | n :: l => by
    have:=kbs_len l
    unfold kbs at this ⊢
    rw [List.flatMap_cons,List.length_append,kbI_len,this,List.length_cons];omega
theorem kbs_inj:∀ {l m:List Nat},l.length=m.length→(∀ x∈l,x<16777216)→(∀ x∈m,x<16777216)→kbs l=kbs m→l=m
  | [],[],_,_,_,_=>rfl
  | [],_ :: _,h,_,_,_=>by cases h
  | _ :: _,[],h,_,_,_=>by cases h
  | a :: l, b :: m, h, ha, hb, e => by
    have e':kbI a++kbs l=kbI b++kbs m:=e
    obtain ⟨e1,e2⟩:=List.append_inj e' (by rw [kbI_len,kbI_len])
    rw [kbI_inj (ha a List.mem_cons_self) (hb b List.mem_cons_self) e1,kbs_inj (by simpa using h) (fun x hx=>ha x (List.mem_cons_of_mem _ hx)) (fun x hx=>hb x (List.mem_cons_of_mem _ hx)) e2]
theorem kbs_byte (l:List Nat):∀ x∈kbs l,0≤x∧x<256:=fun x hx=>by
  obtain ⟨n,hn,hx⟩:=List.mem_flatMap.1 hx
  exact kbI_byte n x hx
theorem kbS_byte (s:Sig):∀ x∈kbS s,0≤x∧x<256:=fun x hx=>by
  unfold kbS at hx
  rcases List.mem_append.1 hx with hx|hx
  · rcases List.mem_append.1 hx with hx | hx
    · exact kbI_byte _ x hx
    · split at hx
      · rw [List.mem_singleton.1 hx];omega
      · cases hx
  · exact kbs_byte _ x hx
theorem kbS_inj {s t:Sig} (hl:s.2.2.length=t.2.2.length) (h1:s.1<16777216) (h2:t.1<16777216) (hs:∀ x∈s.2.2,x<16777216) (ht:∀ x∈t.2.2,x<16777216) (h:kbS s=kbS t):s=t:=by
  obtain ⟨a,b,l⟩:=s
  obtain ⟨a',b',l'⟩:=t
  simp only at hl h1 h2 hs ht
  have hlen:=congrArg List.length h
  unfold kbS at h hlen
  simp only [List.length_append,kbI_len,kbs_len] at hlen
  have hb:b=b':=by cases b<;>cases b'<;>simp at hlen ⊢<;>omega
  subst hb
  obtain ⟨e1,e2⟩:=List.append_inj h (by simp [kbI_len])
  obtain ⟨e3,_⟩:=List.append_inj e1 (by rw [kbI_len,kbI_len])
  rw [kbI_inj h1 h2 e3,kbs_inj hl hs ht e2]
theorem strI_inj : ∀ {l m : List Int}, (∀ x ∈ l, 0 ≤ x ∧ x < 256) → (∀ x ∈ m, 0 ≤ x ∧ x < 256) → strI l = strI m → l = m := fun {l m} hl hm h => by
  unfold strI at h
  injection h with h
  injection h with h
  have h':l.map (fun n=>UInt8.ofNat n.toNat)=m.map (fun n=>UInt8.ofNat n.toNat):=congrArg Array.toList h
  clear h
  have h:=h'
  clear h'
  revert m
  induction l with
  | nil => intro m hm h; cases m with
    | nil=>rfl
    | cons b m=>cases h
  | cons a l ih => intro m hm h; cases m with
    | nil=>cases h
    | cons b m =>
      injection h with h1 h2
      have ha:=hl a List.mem_cons_self
      have hb:=hm b List.mem_cons_self
      have:a=b:=by
        have:=congrArg UInt8.toNat h1
        rw [UInt8.toNat_ofNat',UInt8.toNat_ofNat'] at this
        rw [Nat.mod_eq_of_lt (by omega),Nat.mod_eq_of_lt (by omega)] at this
        omega
      subst this
      rw [ih (fun x hx=>hl x (List.mem_cons_of_mem _ hx)) (fun x hx=>hm x (List.mem_cons_of_mem _ hx)) h2]
/-! ### classes -/
section
variable {σ:Type} [DecidableEq σ]
theorem foldl_pre:∀ (l m:List σ),m <+: l.foldl addK m
  | [],m=>List.prefix_refl _
  | x :: l,m=>(addK_pre m x).trans (foldl_pre l _)
theorem firsts_pre {l m:List σ} (h:l <+: m):firsts l <+: firsts m:=by
  obtain ⟨r,rfl⟩:=h
  unfold firsts
  rw [List.foldl_append]
  exact foldl_pre r _
theorem idx_snoc {l:List σ} {x:σ} (h:x ∉ l):idx (l++[x]) x=l.length:=by
  unfold idx;rw [List.idxOf_append,if_neg h,List.idxOf_cons_self];omega
theorem firsts_len (l:List σ):(firsts l).length≤l.length:=by
  have:=nodup_len (firsts_nodup l) (fun x hx=>firsts_mem.1 hx)
  exact this
end
section
variable {d:Dfa}
def fs (d:Dfa) (cl:List Nat) (i:Nat):List Sig:=firsts ((sigs d cl).take i)
theorem sigs_len (cl:List Nat):(sigs d cl).length=d.n:=by unfold sigs;simp
theorem sigs_get (cl:List Nat) {i:Nat} (hi:i<d.n):(sigs d cl)[i]?=some (sig d cl i):=by
  unfold sigs;rw [List.getElem?_map,List.getElem?_range hi];rfl
theorem fs_succ (cl:List Nat) {i:Nat} (hi:i<d.n):fs d cl (i+1)=addK (fs d cl i) (sig d cl i):=by
  unfold fs
  rw [List.take_add_one,sigs_get cl hi,← firsts_snoc];rfl
theorem fs_all (cl:List Nat):fs d cl d.n=firsts (sigs d cl):=by
  unfold fs;rw [List.take_of_length_le (by rw [sigs_len];exact Nat.le_refl _)]
theorem fs_len (cl:List Nat) (i:Nat):(fs d cl i).length≤i:=by
  have:=firsts_len ((sigs d cl).take i)
  rw [List.length_take] at this
  unfold fs;omega
theorem fs_sig (cl:List Nat) {i:Nat} {s:Sig} (h:s∈fs d cl i):∃ j,j<d.n∧s=sig d cl j:=by
  have:=List.mem_of_mem_take (firsts_mem.1 h)
  obtain ⟨j,hj,e⟩:=List.mem_map.1 this
  exact ⟨j,List.mem_range.1 hj,e.symm⟩
theorem step_idx (cl:List Nat) {i:Nat} (hi:i<d.n):(clsStep d cl).getD i 0=idx (fs d cl (i+1)) (sig d cl i):=by
  rw [step_get cl hi]
  refine idx_pre (firsts_pre (List.take_prefix _ _)) (firsts_mem.2 ?_)
  refine List.mem_of_getElem? (i:=i) ?_
  rw [List.getElem?_take,if_pos (by omega),sigs_get cl hi]
theorem step_old (cl:List Nat) {i:Nat} (hi:i<d.n) (h:sig d cl i∈fs d cl i):(clsStep d cl).getD i 0=idx (fs d cl i) (sig d cl i):=by
  rw [step_idx cl hi,fs_succ cl hi]
  unfold addK;rw [if_pos h]
theorem step_new (cl:List Nat) {i:Nat} (hi:i<d.n) (h:sig d cl i ∉ fs d cl i):(clsStep d cl).getD i 0=(fs d cl i).length:=by
  rw [step_idx cl hi,fs_succ cl hi]
  unfold addK;rw [if_neg h];exact idx_snoc h
def nx (d:Dfa) (cl:List Nat) (i:Nat):List Nat:=(clsStep d cl).take i++List.replicate (d.n-i) 0
theorem nx_zero (cl:List Nat):nx d cl 0=List.replicate d.n 0:=by unfold nx;simp
theorem nx_all (cl:List Nat):nx d cl d.n=clsStep d cl:=by unfold nx;rw [Nat.sub_self,List.take_of_length_le (by rw [step_len];exact Nat.le_refl _)];simp
theorem nx_len (cl:List Nat) {i:Nat} (hi:i≤d.n):(nx d cl i).length=d.n:=by
  unfold nx;rw [List.length_append,List.length_take,step_len,List.length_replicate];omega
theorem nx_set (cl:List Nat) {i v:Nat} (hi:i<d.n) (hv:(clsStep d cl).getD i 0=v):(nx d cl i).set i v=nx d cl (i+1):=by
  have hl:=step_len (d:=d) cl
  unfold nx
  rw [List.set_append_right _ _ (by rw [List.length_take,hl];omega),List.length_take,hl,Nat.min_eq_left (by omega),Nat.sub_self,
    show d.n-i=(d.n-(i+1))+1 by omega,List.replicate_succ,List.set_cons_zero,List.take_add_one,List.getElem?_eq_getElem (by omega)]
  rw [List.getD_eq_getElem?_getD,List.getElem?_eq_getElem (by omega)] at hv
  simp only [Option.getD_some] at hv
  rw [hv];simp
theorem step_lt (cl:List Nat):∀ x∈clsStep d cl,x<d.n:=fun x hx=>by
  obtain ⟨q,hq,e⟩:=List.getElem_of_mem hx
  rw [step_len] at hq
  have h1:=step_get cl hq
  rw [List.getD_eq_getElem?_getD,List.getElem?_eq_getElem (by rw [step_len];exact hq)] at h1
  simp only [Option.getD_some] at h1
  rw [← e,h1]
  have h2:=idx_lt (firsts_mem.2 (sig_mem (d:=d) cl hq))
  have h3:=cnt_le (d:=d) cl
  unfold cnt at h3
  omega
def rw' (d:Dfa) (cl:List Nat) (q s:Nat):List Nat:=(List.range s).map fun s=>cl.getD (d.stp q s) 0
theorem rw_succ (cl:List Nat) (q s:Nat):rw' d cl q (s+1)=rw' d cl q s++[cl.getD (d.stp q s) 0]:=by unfold rw';rw [List.range_succ,List.map_append];rfl
theorem rw_len (cl:List Nat) (q s:Nat):(rw' d cl q s).length=s:=by unfold rw';simp
theorem getD_lt {cl:List Nat} {B:Nat} (h:∀ x∈cl,x<B) (hB:0<B) (q:Nat):cl.getD q 0<B:=by
  rw [List.getD_eq_getElem?_getD]
  cases hq:cl[q]? with
  | none=>exact hB
  | some x=>exact h x (List.mem_of_getElem? hq)
theorem sig_inj {cl:List Nat} (h:∀ x∈cl,x<16777216) {i j:Nat} (e:strI (kbS (sig d cl i))=strI (kbS (sig d cl j))):sig d cl i=sig d cl j:=by
  refine kbS_inj (by simp [sig]) (getD_lt h (by omega) _) (getD_lt h (by omega) _) ?_ ?_ (strI_inj (kbS_byte _) (kbS_byte _) e) <;>
  · intro x hx
    obtain ⟨s,_,rfl⟩:=List.mem_map.1 hx
    exact getD_lt h (by omega) _
theorem sig_injF {cl:List Nat} (h:∀ x∈cl,x<16777216) {i j:Nat}:∀ b∈fs d cl i,strI (kbS b)=strI (kbS (sig d cl j))→b=sig d cl j:=fun b hb e=>by
  obtain ⟨q,_,rfl⟩:=fs_sig cl hb
  exact sig_inj h e
abbrev ksC (l:List Sig):List Value:=l.map fun s=>strI (kbS s)
abbrev vsC (n:Nat):List AV:=(List.range n).map natI
theorem vs_snoc (n:Nat):vsC n++[natI n]=vsC (n+1):=by unfold vsC;rw [List.range_succ,List.map_append];rfl
theorem cls_fuel {c f:Nat} {cl:List Nat} (h:clsF d=clsIt d f c cl) (hf:d.n<f+c) (hc:c≤d.n) (hne:cnt d cl≠c):∃ f',f=f'+1∧clsF d=clsIt d f' (cnt d cl) (clsStep d cl):=by
  cases f with
  | zero=>omega
  | succ f=>exact ⟨f,rfl,by rw [h,clsIt,if_neg hne]⟩
theorem cls_end {c f:Nat} {cl:List Nat} (h:clsF d=clsIt d f c cl) (hf:d.n<f+c) (hc:c≤d.n) (he:cnt d cl=c):clsStep d cl=clsF d:=by
  cases f with
  | zero=>omega
  | succ f=>rw [h,clsIt,if_pos he]
theorem cls_start (hd:okD d):Cls d 0 (List.replicate d.n 0):=⟨List.length_replicate,fun q p hq hp _=>by
  rw [List.getD_eq_getElem?_getD,List.getD_eq_getElem?_getD,List.getElem?_replicate,List.getElem?_replicate,if_pos hq,if_pos hp],.inl rfl⟩
def bK (d:Dfa) (cl:List Nat) (i s:Nat):List Int:=(kbI (cl.getD i 0:Nat)++if d.fn i=true then [1] else [])++kbs (rw' d cl i s)
theorem bK_len (cl:List Nat) (i s:Nat):(bK d cl i s).length≤4+3*s:=by
  unfold bK
  rw [List.length_append,List.length_append,kbI_len,kbs_len,rw_len]
  split<;>simp<;>omega
theorem bK_succ (cl:List Nat) (i s:Nat):bK d cl i (s+1)=bK d cl i s++kbI (cl.getD (d.stp i s) 0:Nat):=by
  unfold bK;rw [rw_succ,kbs_snoc];simp only [List.append_assoc]
theorem bK_t {cl:List Nat} {i:Nat} (h:d.fn i=true):bK d cl i 0=kbI (cl.getD i 0:Nat)++[1]:=by unfold bK;rw [if_pos h];simp [rw',kbs]
theorem bK_f {cl:List Nat} {i:Nat} (h:d.fn i=false):bK d cl i 0=kbI (cl.getD i 0:Nat):=by unfold bK;rw [if_neg (by rw [h];decide)];simp [rw',kbs]
theorem look_c {cl:List Nat} (h:∀ x∈cl,x<16777216) {i:Nat}:mlook (int 0) (ksC (fs d cl i)) (vsC (fs d cl i).length) (strI (bK d cl i d.k))=natI (if sig d cl i∈fs d cl i then idx (fs d cl i) (sig d cl i) else 0):=by
  show mlook (int 0) ((fs d cl i).map fun s=>strI (kbS s)) (vsC (fs d cl i).length) (strI (kbS (sig d cl i)))=_
  by_cases q:sig d cl i∈fs d cl i
  · rw [if_pos q,mlook_map (g:=fun s=>strI (kbS s)) (sig_injF h) q];rfl
  · rw [if_neg q,mlook_not (g:=fun s=>strI (kbS s)) (sig_injF h) q];rfl
theorem has_c {cl:List Nat} (h:∀ x∈cl,x<16777216) {i:Nat}:mhas (ksC (fs d cl i)) (strI (bK d cl i d.k))=decide (sig d cl i∈fs d cl i) :=
  (mhas_map (g:=fun s=>strI (kbS s)) (sig_injF h)).trans (decide_eq_decide.2 Iff.rfl)
theorem put_kc {cl:List Nat} (h:∀ x∈cl,x<16777216) {i:Nat} (hi:i<d.n) (q:sig d cl i ∉ fs d cl i):putK (ksC (fs d cl i)) (strI (bK d cl i d.k))=ksC (fs d cl (i+1)):=by
  rw [fs_succ cl hi];unfold addK;rw [if_neg q]
  exact putK_map (g:=fun s=>strI (kbS s)) (sig_injF h) q
theorem put_vc {cl:List Nat} (h:∀ x∈cl,x<16777216) {i:Nat} (hi:i<d.n) (q:sig d cl i ∉ fs d cl i):putV (ksC (fs d cl i)) (vsC (fs d cl i).length) (strI (bK d cl i d.k)) (natI (fs d cl i).length)=vsC (fs d cl (i+1)).length:=by
  rw [fs_succ cl hi];unfold addK;rw [if_neg q]
  show putV ((fs d cl i).map fun s=>strI (kbS s)) (vsC (fs d cl i).length) (strI (kbS (sig d cl i))) (natI (fs d cl i).length)=_
  rw [putV_map (g:=fun s=>strI (kbS s)) (sig_injF h) q,vs_snoc,List.length_append];rfl
theorem fs_old {cl:List Nat} {i:Nat} (hi:i<d.n) (q:sig d cl i∈fs d cl i):fs d cl (i+1)=fs d cl i:=by
  rw [fs_succ cl hi];unfold addK;rw [if_pos q]
theorem nx_setI (cl:List Nat) {i v:Nat} (hi:i<d.n) (hv:(clsStep d cl).getD i 0=v):((nx d cl i).map natI).set i (natI v)=(nx d cl (i+1)).map natI:=by
  rw [← nx_set cl hi hv,List.map_set]
theorem rep_map (n:Nat):List.replicate n (AV.sc (.int .i64 0))=(List.replicate n 0).map natI:=by rw [List.map_replicate];rfl
/-! ### the reference's classes -/
def reps (d:Dfa) (cl:List Nat):Nat→List Nat
  | 0=>[]
  | i+1=>if sig d cl i∈fs d cl i then reps d cl i else reps d cl i++[i]
theorem reps_map (cl:List Nat):∀ i,i≤d.n→(reps d cl i).map (sig d cl)=fs d cl i
  | 0,_=>rfl
  | i + 1, hi => by
    have ih:=reps_map cl i (by omega)
    rw [fs_succ cl (by omega)]
    unfold reps addK
    by_cases q:sig d cl i∈fs d cl i
    · rw [if_pos q,if_pos q];exact ih
    · rw [if_neg q,if_neg q,List.map_append,ih];rfl
theorem reps_len (cl:List Nat) {i:Nat} (hi:i≤d.n):(reps d cl i).length=(fs d cl i).length:=by rw [← reps_map cl i hi,List.length_map]
theorem reps_lt (cl:List Nat):∀ i,∀ x∈reps d cl i,x<i
  | 0,x,h=>by cases h
  | i + 1, x, h => by
    unfold reps at h
    split at h
    · have:=reps_lt cl i x h;omega
    · rcases List.mem_append.1 h with h | h
      · have:=reps_lt cl i x h;omega
      · rw [List.mem_singleton.1 h];omega
theorem reps_get (cl:List Nat) {i k:Nat} (hi:i≤d.n) (hk:k<(reps d cl i).length):(fs d cl i)[k]?=some (sig d cl ((reps d cl i).getD k default)):=by
  rw [← reps_map cl i hi,List.getElem?_map,List.getElem?_eq_getElem hk,el_get hk];rfl
theorem idx_hit {σ:Type} [DecidableEq σ]:∀ {l:List σ} {x:σ} {k:Nat},l[k]?=some x→(∀ j y,j<k→l[j]?=some y→y≠x)→idx l x=k
  | [],x,k,h,_=>by simp at h
  | y :: l, x, 0, h, _ => by
    simp only [List.getElem?_cons_zero,Option.some.injEq] at h
    subst h;unfold idx;exact List.idxOf_cons_self
  | y :: l, x, k + 1, h, hn => by
    have h0:=hn 0 y (by omega) rfl
    have ih:=idx_hit (l:=l) (x:=x) (k:=k) (by simpa using h) fun j z hj hz=>hn (j+1) z (by omega) (by simpa using hz)
    unfold idx at ih ⊢
    rw [List.idxOf_cons,beq_eq_false_iff_ne.2 h0]
    show List.idxOf x l+1=k+1
    rw [ih]
theorem idx_miss {σ:Type} [DecidableEq σ] {l:List σ} {x:σ} (h:x ∉ l):idx l x=l.length:=by
  unfold idx;exact List.idxOf_eq_length h
theorem alike_hit {cl:List Nat} {i k:Nat} (hi:i<d.n) (hk:k<(reps d cl i).length) (hn:∀ j,j<k→sig d cl ((reps d cl i).getD j default)≠sig d cl i) (h:sig d cl ((reps d cl i).getD k default)=sig d cl i):idx (fs d cl i) (sig d cl i)=k:=by
  refine idx_hit (by rw [reps_get cl (by omega) hk,h]) fun j y hj hy=>?_
  rw [reps_get cl (by omega) (by omega)] at hy
  injection hy with hy
  rw [← hy];exact hn j hj
theorem alike_miss {cl:List Nat} {i k:Nat} (hi:i<d.n) (hk:k=(reps d cl i).length) (hn:∀ j,j<k→sig d cl ((reps d cl i).getD j default)≠sig d cl i):idx (fs d cl i) (sig d cl i)=k:=by
  rw [idx_miss,← reps_len cl (by omega),hk]
  intro q
  obtain ⟨j,hj,e⟩:=List.getElem_of_mem q
  have hj':j<(reps d cl i).length:=by rw [reps_len cl (by omega)];exact hj
  have:=reps_get cl (by omega) hj'
  rw [List.getElem?_eq_getElem hj,e] at this
  injection this with this
  exact hn j (by omega) this.symm
theorem idx_isnew {cl:List Nat} {i k:Nat} (hi:i<d.n) (h:k=idx (fs d cl i) (sig d cl i)) (hk:k=(reps d cl i).length):reps d cl (i+1)=reps d cl i++[i]∧(clsStep d cl).getD i 0=k:=by
  have q:sig d cl i ∉ fs d cl i:=fun q=>by
    have:=idx_lt q
    rw [reps_len cl (by omega)] at hk;omega
  constructor
  · rw [reps,if_neg q]
  · rw [step_new cl hi q,hk,reps_len cl (by omega)]
theorem idx_isold {cl:List Nat} {i k:Nat} (hi:i<d.n) (h:k=idx (fs d cl i) (sig d cl i)) (hk:¬ k=(reps d cl i).length):reps d cl (i+1)=reps d cl i∧(clsStep d cl).getD i 0=k:=by
  have q:sig d cl i∈fs d cl i:=Decidable.byContradiction fun q=>hk (by rw [h,idx_miss q,reps_len cl (by omega)])
  constructor
  · rw [reps,if_pos q]
  · rw [step_old cl hi q,h]
theorem sig_eq {cl:List Nat} {a b:Nat} (h1:cl.getD a 0=cl.getD b 0) (h2:d.fn a=d.fn b) (h3:∀ j,j<d.k→cl.getD (d.stp a j) 0=cl.getD (d.stp b j) 0):sig d cl a=sig d cl b:=by
  unfold sig
  rw [h1,h2]
  congr 2
  exact List.map_congr_left fun s hs=>h3 s (List.mem_range.1 hs)
theorem sig_ne1 {cl:List Nat} {a b:Nat} (h:¬ cl.getD a 0=cl.getD b 0):¬ sig d cl a=sig d cl b:=fun e=>h (congrArg (fun s:Sig=>s.1) e)
theorem sig_ne2 {cl:List Nat} {a b:Nat} (h:¬ d.fn a=d.fn b):¬ sig d cl a=sig d cl b:=fun e=>h (congrArg (fun s:Sig=>s.2.1) e)
theorem sig_ne3 {cl:List Nat} {a b j:Nat} (hj:j<d.k) (h:¬ cl.getD (d.stp a j) 0=cl.getD (d.stp b j) 0):¬ sig d cl a=sig d cl b:=fun e=>by
  have e3:=congrArg (fun s:Sig=>s.2.2[j]?) e
  simp only [sig,List.getElem?_map,List.getElem?_range hj,Option.map_some,Option.some.injEq] at e3
  exact h e3
theorem sigI_ne1 {cl:List Nat} {a b:Nat} (h:¬ ((cl.getD a default:Nat):Int)=(cl.getD b default:Nat)):decide (sig d cl a=sig d cl b)=false:=decide_eq_false (sig_ne1 fun e=>h (congrArg Int.ofNat e))
theorem sigI_ne2 {cl:List Nat} {a b:Nat} (h:(d.fin.getD a default == d.fin.getD b default)=false):decide (sig d cl a=sig d cl b)=false:=decide_eq_false (sig_ne2 (beq_eq_false_iff_ne.1 h))
theorem sigI_ne3 {cl:List Nat} {a b j:Nat} (hj:j<d.k) (h:¬ ((cl.getD ((d.next.getD a default).getD j default).toNat default:Nat):Int)=(cl.getD ((d.next.getD b default).getD j default).toNat default:Nat)):decide (sig d cl a=sig d cl b)=false :=
  decide_eq_false (sig_ne3 hj fun e=>h (congrArg Int.ofNat e))
theorem sigI_eq {cl:List Nat} {a b:Nat} (h1:((cl.getD a default:Nat):Int)=(cl.getD b default:Nat)) (h2:(d.fin.getD a default == d.fin.getD b default)=true)
    (h3:∀ j,j<d.k→((cl.getD ((d.next.getD a default).getD j default).toNat default:Nat):Int)=(cl.getD ((d.next.getD b default).getD j default).toNat default:Nat)):decide (sig d cl a=sig d cl b)=true :=
  decide_eq_true (sig_eq (Int.ofNat.inj h1) (beq_iff_eq.1 h2) fun j hj=>Int.ofNat.inj (h3 j hj))
end
end Go.Wd

namespace Go.Am
open Go.RowKit
section
variable {P:Program} {w0:Fr} {M0:Nat→Prop}
variable {o:Oper} {x y z:Operand} {T T' e:TypeId} {k b:Nat} {c:Cls} {id off:Nat} {s:St} {t:Nat} {xs:List AV}
def viewX (ob:List (Nat×Ob)):SV→Option AV
  | .v _ d=>some d
  | d=>(view ob d).map (·.2)
def viewAllX (ρ : Operand → Option SV) (ob : List (Nat × Ob)) : List Operand → Option (List AV)
  | []=>some []
  | x :: r => match (ρ x).bind (viewX ob), viewAllX ρ ob r with
    | some d,some ds=>some (d :: ds)
    | _,_=>none
theorem viewX_ok {w:World} {E:Env} {ob:List (Nat×Ob)} {v:Value} {s:SV} {d:AV} (hw:WOk P w0 M0 E ob w) (h:SVok P M0 w E ob v s) (hv:viewX ob s=some d):Rep w (fun _=>False) v d:=by
  unfold viewX at hv
  split at hv
  · simp only [Option.some.injEq] at hv
    subst hv
    exact Rep.weak h (fun b hb=>hb.elim)
  · rw [Option.map_eq_some_iff] at hv
    obtain ⟨⟨c,d'⟩,h1,rfl⟩:=hv
    exact (view_ok hw h h1).weak (fun b hb=>hb.elim)
theorem viewAllX_ok {ρ : Operand → Option SV} {ob : List (Nat × Ob)} {E : Env} {w : World} {ev : Operand → Value} (hw : WOk P w0 M0 E ob w) (h : ∀ x e, ρ x = some e → SVok P M0 w E ob (ev x) e) :
    ∀ (xs:List Operand) (ds:List AV),viewAllX ρ ob xs=some ds→xs.length=ds.length∧∀ (j:Nat) d,ds[j]?=some d→Rep w (fun _=>False) ((xs.map ev).getD j undef) d
  | [], ds, hd => by
    simp only [viewAllX,Option.some.injEq] at hd
    subst hd
    exact ⟨rfl,fun j d hd=>by simp at hd⟩
  | x :: r, ds, hd => by
    unfold viewAllX at hd
    split at hd
    · rename_i d0 ds0 h1 h2
      simp only [Option.some.injEq] at hd
      subst hd
      have ih:=viewAllX_ok hw h r ds0 h2
      refine ⟨by simp [ih.1],fun j d hd=>?_⟩
      cases j with
      | zero =>
        simp only [List.getElem?_cons_zero,Option.some.injEq] at hd
        subst hd
        rw [Option.bind_eq_some_iff] at h1
        obtain ⟨q,h3,h4⟩:=h1
        exact viewX_ok hw (h x q h3) h4
      | succ j=>exact ih.2 j d (by simpa using hd)
    · cases hd
theorem args_repX {ρ:Operand→Option SV} {ob:List (Nat×Ob)} {E:Env} {w:World} {ev:Operand→Value} (hw:WOk P w0 M0 E ob w) (h:∀ x e,ρ x=some e→SVok P M0 w E ob (ev x) e) {aa:List Operand} {ds caps:List AV} (ha:viewAllX ρ ob aa=some ds) {vs:List Value} {M:Nat→Prop} (hn:vs.length=caps.length)
    (hr:∀ (j:Nat) d,caps[j]?=some d→Rep w M (vs.getD j undef) d):(aa.map ev++vs).length=(ds++caps).length∧∀ (j:Nat) d,(ds++caps)[j]?=some d→Rep w (fun _=>False) ((aa.map ev++vs).getD j undef) d:=by
  have hv:=viewAllX_ok hw h _ _ ha
  refine ⟨by simp [hv.1,hn],fun j d hd=>?_⟩
  rw [List.getD_eq_getElem?_getD]
  rcases Nat.lt_or_ge j ds.length with hlt|hge
  · rw [List.getElem?_append_left hlt] at hd
    have:=hv.2 j d hd
    rw [List.getElem?_append_left (by simp [hv.1];omega)]
    rwa [List.getD_eq_getElem?_getD] at this
  · rw [List.getElem?_append_right hge] at hd
    have:=hr _ d hd
    rw [List.getElem?_append_right (by simp [hv.1];omega)]
    simp only [List.length_map,hv.1]
    rw [List.getD_eq_getElem?_getD] at this
    exact this.weak (fun b hb=>hb.elim)
theorem step_call_ownX {cx:Operand} {args:Array Operand} {ats:Array TypeId} {c:Cls} {f:FuncId} {caps ds:List AV}
    (ho:o.op=.call { callee:=.value cx,args:=args,argTypes:=ats }) (hd:o.dst=some t) (hn:Nat.blt t s.n=true) (hnd:Nodup s.s=true) (hc:s.ev cx=some (.v c (.clo f caps))) (ha:viewAllX s.ev s.o args.toList=some ds) (h:CallF P f (ds++caps) (.fresh e xs))
    (hM0:∀ b,M0 b→b<w0.w.heap.size):Step P w0 M0 o s ((s.upd true t (.arr e xs)).put t (.own t)):=by
  rintro a w Q ⟨E,hs⟩
  have hcv:=hs.ev hc
  simp only [SVok] at hcv
  generalize hq:a.eval cx=q at hcv
  cases hcv with
  | clo _ vs _ hnc hr =>
    have hv:=args_repX hs.wok (fun x e hx=>hs.ev hx) ha hnc hr
    unfold Oper.wp
    rw [run_call ho hq h.1]
    simp only [Oper.upon]
    have hall:=h.2 w (args.toList.map a.eval++vs) hv.1 hv.2
    have e1:(args.toList.map a.eval++vs).toArray=args.map a.eval++vs.toArray:=by apply Array.ext' ;simp
    rw [e1] at hall
    refine hall.mono fun e' w' ⟨v,he,hb,hrv⟩=>?_
    subst he
    obtain ⟨vals,h1,h2,h3⟩:=hrv
    simp only [hd]
    refine ⟨{ E with cur:=fun i=>if i=t then v else E.cur i },SimE.put ?_ (by simpa [St.upd] using hn) sv_own_new⟩
    refine hs.newArr hnd hM0 (grownBy_of_below hb) (fun _=>hb.drawn trivial) (vals:=vals) ?_ (fun b hb=>Nat.le_of_not_lt (h1.2 b hb)) h2 (fun j d hd=>⟨(h3 j d hd).1,.inr (h3 j d hd).2⟩)
    exact h1.1
theorem pure_callX {ρ:Operand→Option SV} {ob:List (Nat×Ob)} {cx:Operand} {args:Array Operand} {ats:Array TypeId} {c:Cls} {f:FuncId} {caps ds:List AV} {r:RV}
    (ho:o.op=.call { callee:=.value cx,args:=args,argTypes:=ats }) (hc:ρ cx=some (.v c (.clo f caps))) (ha:viewAllX ρ ob args.toList=some ds) (h:CallF P f (ds++caps) r)
    (hM0:∀ b,M0 b→b<w0.w.heap.size):Pure P w0 M0 o ρ ob (.v .pl r.data):=by
  intro E w ev hw hx
  have hcv:=hx cx _ hc
  simp only [SVok] at hcv
  generalize hq:ev cx=q at hcv
  cases hcv with
  | clo _ vs _ hn hr =>
    have hv:=args_repX hw hx ha hn hr
    unfold Yield
    rw [run_call ho hq h.1]
    refine ⟨rfl,?_⟩
    have hall:=h.2 w (args.toList.map ev++vs) hv.1 hv.2
    have e1:(args.toList.map ev++vs).toArray=args.map ev++vs.toArray:=by apply Array.ext' ;simp
    rw [e1] at hall
    refine hall.mono fun e w' ⟨v,he,hb,hrv⟩=>⟨v,he,hb.to,?_⟩
    have hrep:=hrv.rep (fun b hb=>hb)
    refine hrep.weak fun b hb'=>?_
    rcases hb' with hb'|hb'
    · have:=hM0 b hb';have:=hw.below.size;omega
    · exact (hw.owned_range hb').2
theorem pure_callD {ρ:Operand→Option SV} {ob:List (Nat×Ob)} {cx:Operand} {args:Array Operand} {ats:Array TypeId} {c:Cls} {f:FuncId} {caps ds:List AV} {d:AV}
    (ho:o.op=.call { callee:=.value cx,args:=args,argTypes:=ats }) (hc:ρ cx=some (.v c (.clo f caps))) (ha:viewAll ρ ob args.toList=some ds) (h:CallF P f (ds++caps) (.p d))
    (hM0:∀ b,M0 b→b<w0.w.heap.size):Pure P w0 M0 o ρ ob (.v .pl d):=pure_call (r:=.p d) ho hc ha h hM0
theorem pure_tupl {ρ : Operand → Option SV} {ob : List (Nat × Ob)} {u v : Value} (h : Pure P w0 M0 o ρ ob (.v c (.tup [.sc u, .sc v]))) : Pure P w0 M0 o ρ ob (.v .pl (.tup [.sc u, .sc v])) := by
  intro E w ev hw hx
  have h:=h E w ev hw hx
  have key:∀ (z:Value) (w':World),SVok P M0 w' E ob z (.v c (.tup [.sc u,.sc v]))→SVok P M0 w' E ob z (.v .pl (.tup [.sc u,.sc v])):=fun z w' hr=>by
    have hr:Rep w' _ z (.tup [.sc u,.sc v]):=hr
    show Rep w' _ z (.tup [.sc u,.sc v])
    cases hr with
    | tup vs _ hn hr =>
      refine .tup vs _ hn fun j d hj=>?_
      have hq:=hr j d hj
      match j with
      | 0 =>
        simp only [List.getElem?_cons_zero,Option.some.injEq] at hj;subst hj
        generalize vs.getD 0 undef=y at hq ⊢
        cases hq with|sc _ h1=>exact .sc _ h1
      | 1 =>
        simp only [List.getElem?_cons_succ,List.getElem?_cons_zero,Option.some.injEq] at hj;subst hj
        generalize vs.getD 1 undef=y at hq ⊢
        cases hq with|sc _ h1=>exact .sc _ h1
      | j+2=>simp at hj
  unfold Yield at h ⊢
  generalize (execOp ev o).run P w=r at *
  match r,h with
  | .ok (.value z) w',h=>exact ⟨h.1,key z w' h.2⟩
  | .ok (.enter f args) w', h =>
    refine ⟨h.1,h.2.mono fun e w'' ⟨z,he,hb,hz⟩=>⟨z,he,hb,key z w'' hz⟩⟩
theorem pure_scl {ρ:Operand→Option SV} {ob:List (Nat×Ob)} {u:Value} (h:Pure P w0 M0 o ρ ob (.v c (.sc u))):Pure P w0 M0 o ρ ob (.v .pl (.sc u)):=by
  intro E w ev hw hx
  have h:=h E w ev hw hx
  have key:∀ (z:Value) (w':World),SVok P M0 w' E ob z (.v c (.sc u))→SVok P M0 w' E ob z (.v .pl (.sc u)):=fun z w' hr=>by
    have hr:Rep w' _ z (.sc u):=hr
    show Rep w' _ z (.sc u)
    cases hr with|sc _ h1=>exact .sc _ h1
  unfold Yield at h ⊢
  generalize (execOp ev o).run P w=r at *
  match r,h with
  | .ok (.value z) w',h=>exact ⟨h.1,key z w' h.2⟩
  | .ok (.enter f args) w', h =>
    refine ⟨h.1,h.2.mono fun e w'' ⟨z,he,hb,hz⟩=>⟨z,he,hb,key z w'' hz⟩⟩
end
end Go.Am

namespace Go.Wb
open Go.Am
inductive Rx where
  | mk (kind:Int) (syms:List Int) (kids:List Rx)
def Rx.kind:Rx→Int|.mk k _ _=>k
def Rx.syms:Rx→List Int|.mk _ s _=>s
def Rx.kids:Rx→List Rx|.mk _ _ l=>l
instance:Inhabited Rx:=⟨.mk 0 [] []⟩
mutual
def Rx.av:Rx→AV
  | .mk k s l=>.agg [int k,ints s,.sl (Rx.avs l)]
def Rx.avs:List Rx→List AV
  | []=>[]
  | x :: l=>x.av :: Rx.avs l
end
def rx (r:Rx):AV:=.agg [int r.kind,ints r.syms,.sl (Rx.avs r.kids)]
abbrev rxs (l:List Rx):AV:=.sl (l.map rx)
theorem av_eq (r:Rx):r.av=rx r:=by cases r with|mk k s l=>rw [Rx.av];rfl
theorem avs_eq:∀ l:List Rx,Rx.avs l=l.map rx
  | []=>by rw [Rx.avs];rfl
  | x :: l=>by rw [Rx.avs,avs_eq l,av_eq];rfl
theorem rx_eq (r:Rx):rx r=.agg [int r.kind,ints r.syms,rxs r.kids]:=by unfold rx;rw [avs_eq]
abbrev rpc (r:Rx):AV:=.pc [int r.kind,ints r.syms,rxs r.kids] 0
abbrev rcells (c:Cls) (r:Rx):List SV:=[.v c (int r.kind),.v c (ints r.syms),.v c (rxs r.kids)]
mutual
def Rx.size:Rx→Nat
  | .mk _ s l=>1+s.length+Rx.sizes l
def Rx.sizes:List Rx→Nat
  | []=>0
  | x :: l=>x.size+Rx.sizes l
end
theorem size_mem:∀ {l:List Rx} {x:Rx},x∈l→x.size≤Rx.sizes l
  | y :: l, x, h => by
    rw [Rx.sizes]
    rcases List.mem_cons.1 h with rfl|h
    · omega
    · have:=size_mem h;omega
theorem size_kid {r x:Rx} (h:x∈r.kids):x.size<r.size:=by
  cases r with|mk k s l=>rw [Rx.size];have:=size_mem (l:=l) h;omega

theorem size_pos (r:Rx):1≤r.size:=by cases r with|mk k s l=>rw [Rx.size];omega
theorem kid_mem {l:List Rx} {i:Nat} (h:i<l.length):l.getD i default∈l:=by
  rw [List.getD_eq_getElem?_getD,List.getElem?_eq_getElem h];exact List.getElem_mem h
theorem kid_lt {r:Rx} {i:Nat} (h:i<r.kids.length):(r.kids.getD i default).size<r.size:=size_kid (kid_mem h)
theorem drop_cons {α:Type} [Inhabited α] {l:List α} {k:Nat} (h:k<l.length):l.drop k=l.getD k default :: l.drop (k+1):=by
  rw [List.drop_eq_getElem_cons h,List.getD_eq_getElem?_getD,List.getElem?_eq_getElem h];rfl
theorem sizes_len:∀ l:List Rx,l.length≤Rx.sizes l
  | []=>Nat.zero_le _
  | x :: l=>by rw [Rx.sizes,List.length_cons];have:=sizes_len l;have:=size_pos x;omega
theorem size_eq (r:Rx):r.size=1+r.syms.length+Rx.sizes r.kids:=by cases r with|mk k s l=>rw [Rx.size];rfl
theorem syms_len (r:Rx):r.syms.length<r.size:=by rw [size_eq];omega
theorem kids_len (r:Rx):r.kids.length<r.size:=by rw [size_eq];have:=sizes_len r.kids;omega

mutual
def nodesV (most:Int):Rx→Int
  | .mk _ _ l=>nodesG most 1 l
def nodesG (most:Int) (n:Int):List Rx→Int
  | []=>n
  | x :: l=>if n≤most then nodesG most (n+nodesV most x) l else n
end
theorem sizes_step {l:List Rx} {i:Nat} (h:i<l.length):Rx.sizes (l.drop i)=(l.getD i default).size+Rx.sizes (l.drop (i+1)):=by
  rw [drop_cons h,Rx.sizes]
mutual
theorem nodesV_bd (most:Int):∀ r:Rx,1≤nodesV most r∧nodesV most r≤r.size
  | .mk _ _ l => by
    rw [nodesV,Rx.size]
    have:=nodesG_bd most 1 (by omega) l
    omega
theorem nodesG_bd (most n:Int) (hn:1≤n):∀ l:List Rx,1≤nodesG most n l∧nodesG most n l≤n+Rx.sizes l
  | []=>by rw [nodesG,Rx.sizes];omega
  | x :: l => by
    rw [nodesG,Rx.sizes]
    have h1:=nodesV_bd most x
    have h2:=nodesG_bd most (n+nodesV most x) (by omega) l
    split<;>omega
end

def okAt (l:List Int) (j:Nat):Prop:=0≤l.getD j default∧l.getD j default<64∧(0<j→l.getD ((j:Int)-1).toNat default<l.getD j default)
instance (l:List Int) (j:Nat):Decidable (okAt l j):=by unfold okAt;exact inferInstance
def setOk (l:List Int):Bool:=decide (0<l.length∧∀ j,j<l.length→okAt l j)
theorem setOk_no {l:List Int} {k:Nat} (hk:k<l.length) (h:¬ okAt l k):false=setOk l:=by
  symm;unfold setOk;rw [decide_eq_false_iff_not];exact fun q=>h (q.2 k hk)
theorem setOk_end {l:List Int} (h:∀ j,j<l.length→okAt l j):setOk l=decide (0<l.length):=by
  unfold setOk;exact decide_eq_decide.2 ⟨fun q=>q.1,fun q=>⟨q,h⟩⟩
theorem all_step {P:Nat→Prop} {k:Nat} (h:∀ j,j<k→P j) (h2:P k):∀ j,j<k+1→P j:=fun j hj=>by
  rcases Nat.lt_or_eq_of_le (Nat.lt_succ_iff.1 hj) with q|rfl
  · exact h j q
  · exact h2
def orderI (a b:Int):Int:=if a<b then -1 else if b<a then 1 else 0
def thn (c d:Int):Int:=if c=0 then d else c
def orderL:List Int→List Int→Int
  | [],[]=>0
  | [],_ :: _=>-1
  | _ :: _,[]=>1
  | x :: xs,y :: ys=>thn (orderI x y) (orderL xs ys)
mutual
def cmpR:Rx→Rx→Int
  | .mk k s l,b=>thn (orderI k b.kind) (thn (orderL s b.syms) (cmpRs l b.kids))
def cmpRs:List Rx→List Rx→Int
  | [],[]=>0
  | [],_ :: _=>-1
  | _ :: _,[]=>1
  | x :: xs,y :: ys=>thn (cmpR x y) (cmpRs xs ys)
end
theorem cmpR_eq (a b:Rx):cmpR a b=thn (thn (orderI a.kind b.kind) (orderL a.syms b.syms)) (cmpRs a.kids b.kids):=by
  cases a with|mk k s l =>
  rw [cmpR];show _=thn (thn (orderI k _) (orderL s _)) (cmpRs l _)
  unfold thn;split<;>simp_all
theorem orderL_step {a b:List Int} {k:Nat} (ha:k<a.length) (hb:k<b.length):orderL (a.drop k) (b.drop k)=thn (orderI (a.getD k default) (b.getD k default)) (orderL (a.drop (k+1)) (b.drop (k+1))):=by
  rw [drop_cons ha,drop_cons hb];rfl
theorem orderL_end {a b:List Int} {k:Nat} (h:a.length≤k∨b.length≤k) (ha:k≤a.length) (hb:k≤b.length):orderL (a.drop k) (b.drop k)=orderI a.length b.length:=by
  unfold orderI
  rcases Nat.lt_or_ge k a.length with h1|h1
  · have h2 : b.length ≤ k := by omega
    rw [drop_cons h1,List.drop_of_length_le h2,if_neg (by omega),if_pos (by omega)];rfl
  · rw [List.drop_of_length_le h1]
    rcases Nat.lt_or_ge k b.length with h2|h2
    · rw [drop_cons h2,if_pos (by omega)];rfl
    · rw [List.drop_of_length_le h2,if_neg (by omega),if_neg (by omega)];rfl
theorem cmpRs_step {a b:List Rx} {k:Nat} (ha:k<a.length) (hb:k<b.length):cmpRs (a.drop k) (b.drop k)=thn (cmpR (a.getD k default) (b.getD k default)) (cmpRs (a.drop (k+1)) (b.drop (k+1))):=by
  rw [drop_cons ha,drop_cons hb,cmpRs]
theorem cmpRs_end {a b:List Rx} {k:Nat} (h:a.length≤k∨b.length≤k) (ha:k≤a.length) (hb:k≤b.length):cmpRs (a.drop k) (b.drop k)=orderI a.length b.length:=by
  unfold orderI
  rcases Nat.lt_or_ge k a.length with h1|h1
  · have h2 : b.length ≤ k := by omega
    rw [drop_cons h1,List.drop_of_length_le h2,if_neg (by omega),if_pos (by omega),cmpRs]
  · rw [List.drop_of_length_le h1]
    rcases Nat.lt_or_ge k b.length with h2|h2
    · rw [drop_cons h2,if_pos (by omega),cmpRs]
    · rw [List.drop_of_length_le h2,if_neg (by omega),if_neg (by omega),cmpRs]
theorem thn_zero {c d:Int} (h:c=0):thn c d=d:=if_pos h
theorem thn_ne {c d:Int} (h:¬ c=0):thn c d=c:=if_neg h
mutual
def validR:Rx→Bool
  | .mk k s l=>if k<0∨5<k then false else if k=2 then setOk s&&decide (l.length=0) else
      if 0<s.length∨(k≤1∧0<l.length)∨(k=5∧l.length≠1) then false else validRs l
def validRs:List Rx→Bool
  | []=>true
  | x :: l=>validR x&&validRs l
end
theorem validR_eq (r:Rx):validR r=if r.kind<0∨5<r.kind then false else if r.kind=2 then setOk r.syms&&decide (r.kids.length=0) else
      if 0<r.syms.length∨(r.kind≤1∧0<r.kids.length)∨(r.kind=5∧r.kids.length≠1) then false else validRs r.kids:=by
  cases r with|mk k s l=>rw [validR];rfl
theorem validRs_all:∀ l:List Rx,validRs l=l.all validR
  | []=>by rw [validRs];rfl
  | x :: l=>by rw [validRs,validRs_all l];rfl
def idxF {α:Type} [Inhabited α] (p:α→Bool) (l:List α):Int:=if l.any p then (l.findIdx p:Nat) else -1
theorem any_no {α:Type} [Inhabited α] {p:α→Bool} {l:List α} (h:∀ j,j<l.length→p (l.getD j default)=false):l.any p=false:=by
  rw [List.any_eq_false]
  intro x hx
  obtain ⟨j,hj,rfl⟩:=List.getElem_of_mem hx
  have:=h j hj
  rw [List.getD_eq_getElem?_getD,List.getElem?_eq_getElem hj] at this
  exact fun q=>by rw [Option.getD_some] at this;rw [q] at this;exact absurd this (by decide)
theorem idxF_none {α:Type} [Inhabited α] {p:α→Bool} {l:List α} (h:∀ j,j<l.length→p (l.getD j default)=false):-1=idxF p l:=by
  unfold idxF;rw [any_no h];rfl
theorem idxF_hit {α:Type} [Inhabited α] {p:α→Bool} {l:List α} {k:Nat} (hk:k<l.length) (h:∀ j,j<k→p (l.getD j default)=false) (hp:p (l.getD k default)=true):(k:Int)=idxF p l:=by
  have hg:l.getD k default=l[k]:=by rw [List.getD_eq_getElem?_getD,List.getElem?_eq_getElem hk];rfl
  rw [hg] at hp
  unfold idxF
  rw [if_pos (List.any_eq_true.2 ⟨_,List.getElem_mem hk,hp⟩)]
  have h1:l.findIdx p=k:=by
    refine (List.findIdx_eq hk).2 ⟨hp,fun j hj=>?_⟩
    have:=h j hj
    rwa [List.getD_eq_getElem?_getD,List.getElem?_eq_getElem (by omega)] at this
  rw [h1]
theorem idxF_ge {α:Type} [Inhabited α] (p:α→Bool) (l:List α):decide (0≤idxF p l)=l.any p:=by
  unfold idxF;split
  · rename_i h;rw [h];exact decide_eq_true (by omega)
  · rename_i h;rw [Bool.not_eq_true] at h;rw [h];rfl

mutual
def accR:Rx→Bool
  | .mk k _ l=>if k=3 then accAll l else if k=4 then accAny l else decide (k=1∨k=5)
def accAll:List Rx→Bool
  | []=>true
  | x :: l=>accR x&&accAll l
def accAny:List Rx→Bool
  | []=>false
  | x :: l=>accR x||accAny l
end
theorem accAll_eq:∀ l:List Rx,accAll l=l.all accR
  | []=>by rw [accAll];rfl
  | x :: l=>by rw [accAll,accAll_eq l];rfl
theorem accAny_eq:∀ l:List Rx,accAny l=l.any accR
  | []=>by rw [accAny];rfl
  | x :: l=>by rw [accAny,accAny_eq l];rfl
theorem accR_eq (r:Rx):accR r=if r.kind=3 then r.kids.all accR else if r.kind=4 then r.kids.any accR else decide (r.kind=1∨r.kind=5):=by
  cases r with|mk k s l=>rw [accR,accAll_eq,accAny_eq];rfl
theorem any_yes {p:Rx→Bool} {l:List Rx} {i:Nat} (h:i<l.length) (hv:p (l.getD i default)=true):l.any p=true :=
  List.any_eq_true.2 ⟨_,kid_mem h,hv⟩

theorem all_not_any {p:Rx→Bool} (l:List Rx):l.all p=!(l.any fun x=>!p x):=by
  induction l with
  | nil=>rfl
  | cons x l ih=>rw [List.all_cons,List.any_cons,ih];cases p x<;>cases l.any _<;>rfl
theorem validR_01 {r:Rx} (h:r.kind=0∨r.kind=1):validR r=(decide (r.syms.length=0)&&decide (r.kids.length=0)):=by
  rw [validR_eq,if_neg (by omega),if_neg (by omega)]
  by_cases h1:r.syms.length=0<;>by_cases h2:r.kids.length=0
  · rw [if_neg (by omega),decide_eq_true h1,decide_eq_true h2,validRs_all,List.length_eq_zero_iff.1 h2];rfl
  · rw [if_pos (by omega),decide_eq_false h2,Bool.and_false]
  · rw [if_pos (by omega),decide_eq_false h1,Bool.false_and]
  · rw [if_pos (by omega),decide_eq_false h1,Bool.false_and]
theorem validR_2 {r:Rx} (h:r.kind=2):validR r=(decide (r.kids.length=0)&&setOk r.syms):=by
  rw [validR_eq,if_neg (by omega),if_pos h,Bool.and_comm]
theorem validR_5 {r:Rx} (h:r.kind=5):validR r=(decide (r.syms.length=0)&&(decide (r.kids.length=1)&&validR (r.kids.getD 0 default))):=by
  rw [validR_eq,if_neg (by omega),if_neg (by omega)]
  by_cases h1:r.syms.length=0<;>by_cases h2:r.kids.length=1
  · rw [if_neg (by omega), decide_eq_true h1, decide_eq_true h2, validRs_all]
    obtain ⟨x,hx⟩:=List.length_eq_one_iff.1 h2
    rw [hx];simp
  · rw [if_pos (by omega),decide_eq_false h2,Bool.false_and,Bool.and_false]
  · rw [if_pos (by omega),decide_eq_false h1,Bool.false_and]
  · rw [if_pos (by omega),decide_eq_false h1,Bool.false_and]
theorem validR_34 {r:Rx} (h:r.kind=3∨r.kind=4):validR r=(decide (r.syms.length=0)&&!(r.kids.any fun x=>!validR x)):=by
  rw [validR_eq,if_neg (by omega),if_neg (by omega)]
  by_cases h1:r.syms.length=0
  · rw [if_neg (by omega),decide_eq_true h1,validRs_all,all_not_any,Bool.true_and]
  · rw [if_pos (by omega),decide_eq_false h1,Bool.false_and]
theorem validR_no {r:Rx} (h:r.kind<0∨5<r.kind):validR r=false:=by rw [validR_eq,if_pos h]
end Go.Wb

namespace Go.Wd
open Go.Am
theorem rep_mapI (n:Nat):List.replicate n (AV.sc (.int .i64 0))=(List.replicate n (0:Int)).map int:=by rw [List.map_replicate]
section
variable {K:Type} [DecidableEq K] (next:K→Nat→K) (size:Nat)
def rI (x:K) (l:List K) (s:Nat):List Int:=(List.range s).map fun t=>((idx (grow next x l s) (next x t):Nat):Int)
def rB (x:K) (l:List K) (s:Nat):List Int:=rI next x l s++List.replicate (size-s) 0
def rowsX (l m:List K):List (List Int):=m.map fun x=>(List.range size).map fun s=>((idx l (next x s):Nat):Int)
def finX {K:Type} (final:K→Bool) (m:List K):List Bool:=m.map final
structure Ex (U:List K) (start:K) (N:Nat) (l:List K) (i:Nat):Prop where
  met:Met next size U l i
  reach:Go.Wd.reach next size N start=clos next size (N+1-i) i l
  head:[start] <+: l
end
section
variable {K:Type} [DecidableEq K] {next:K→Nat→K} {size:Nat} {final:K→Bool} {x:K} {l:List K} {U:List K} {start:K} {N i:Nat}
theorem rI_succ (s:Nat):rI next x l (s+1)=rI next x l s++[((idx (grow next x l (s+1)) (next x s):Nat):Int)]:=by
  unfold rI
  rw [List.range_succ,List.map_append]
  congr 1
  refine List.map_congr_left fun t ht=>?_
  have ht:=List.mem_range.1 ht
  have hm:next x t∈grow next x l s:=(grow_mem x l s).2 (.inr ⟨t,ht,rfl⟩)
  rw [idx_pre (m:=grow next x l (s+1)) (addK_pre (grow next x l s) (next x s)) hm]
theorem rI_len (s:Nat):(rI next x l s).length=s:=by unfold rI;simp
theorem rB_len {s:Nat} (hs:s≤size):(rB next size x l s).length=size:=by unfold rB;rw [List.length_append,rI_len,List.length_replicate];omega
theorem rB_zero:rB next size x l 0=List.replicate size 0:=by unfold rB rI;simp
theorem rB_all:rB next size x l size=(List.range size).map fun t=>((idx (grow next x l size) (next x t):Nat):Int):=by unfold rB rI;simp
theorem rB_set {s:Nat} (hs:s<size):((rB next size x l s).map int).set s (natI (idx (grow next x l (s+1)) (next x s)))=(rB next size x l (s+1)).map int:=by
  rw [← List.map_set]
  congr 1
  unfold rB
  rw [List.set_append_right _ _ (by rw [rI_len];exact Nat.le_refl _),rI_len,Nat.sub_self,show size-s=(size-(s+1))+1 by omega,List.replicate_succ,List.set_cons_zero,rI_succ]
  simp
theorem grow_old {s:Nat} (h:next x s∈grow next x l s):grow next x l (s+1)=grow next x l s:=by rw [grow];unfold addK;rw [if_pos h]
theorem grow_new {s:Nat} (h:next x s ∉ grow next x l s):grow next x l (s+1)=grow next x l s++[next x s]:=by rw [grow];unfold addK;rw [if_neg h]
theorem grow_at [Inhabited K] (s:Nat) (hi:i<l.length):(grow next x l s).getD i default=l.getD i default:=by
  obtain ⟨r,e⟩:=grow_pre (next:=next) x l s
  rw [← e,List.getD_eq_getElem?_getD,List.getElem?_append_left hi,← List.getD_eq_getElem?_getD]
theorem grow_len (s:Nat):l.length≤(grow next x l s).length:=(grow_pre (next:=next) x l s).length_le
theorem grow_sub (h:Met next size U l i) (hU:∀ x∈U,∀ s,s<size→next x s∈U) (hx:x∈U) {s:Nat} (hs:s≤size):∀ y∈grow next x l s,y∈U:=fun y hy=>by
  rcases (grow_mem x l s).1 hy with q|⟨t,ht,e⟩
  · exact h.sub y q
  · rw [e];exact hU x hx t (by omega)
theorem grow_lt (h:Met next size U l i) (hU:∀ x∈U,∀ s,s<size→next x s∈U) (hx:x∈U) {s:Nat} (hs:s<size) (hn:next x s ∉ grow next x l s):(grow next x l s).length<U.length:=by
  have h1:=grow_nodup (next:=next) x h.nodup (s+1)
  have h2:=nodup_len h1 (grow_sub h hU hx (s:=s+1) (by omega))
  rw [grow_new hn,List.length_append] at h2
  simp only [List.length_cons,List.length_nil] at h2
  omega
theorem grow_le (h:Met next size U l i) (hU:∀ x∈U,∀ s,s<size→next x s∈U) (hx:x∈U) {s:Nat} (hs:s≤size):(grow next x l s).length≤U.length :=
  nodup_len (grow_nodup (next:=next) x h.nodup s) (grow_sub h hU hx hs)
theorem rows_len (l m:List K):(rowsX next size l m).length=m.length:=by unfold rowsX;rw [List.length_map]
theorem fin_len {K:Type} {final:K→Bool} (m:List K):(finX final m).length=m.length:=by unfold finX;rw [List.length_map]
theorem take_grow [Inhabited K] (s:Nat) (hi:i<l.length):(grow next x l s).take (i+1)=l.take i++[l.getD i default]:=by
  obtain ⟨r,e⟩:=grow_pre (next:=next) x l s
  rw [← e,List.take_append_of_le_length (by omega),List.take_add_one,List.getElem?_eq_getElem hi,el_get hi];rfl
theorem rows_step [Inhabited K] (h:Met next size U l i) (hi:i<l.length) (hx:x=l.getD i default):rowsX next size (grow next x l size) ((grow next x l size).take (i+1))=rowsX next size l (l.take i)++[rB next size x l size]:=by
  rw [take_grow _ hi]
  unfold rowsX
  rw [List.map_append,rB_all,← hx]
  congr 1
  refine List.map_congr_left fun y hy=>List.map_congr_left fun s hs=>?_
  obtain ⟨j,hj,e⟩:=List.getElem_of_mem hy
  rw [List.getElem_take] at e
  rw [List.length_take] at hj
  have:=h.met j y (by omega) (by rw [List.getElem?_eq_getElem (by omega),e]) s (List.mem_range.1 hs)
  rw [idx_pre (grow_pre x l size) this]
theorem fin_step [Inhabited K] (hi:i<l.length) (hx:x=l.getD i default):finX final ((grow next x l size).take (i+1))=finX final (l.take i)++[final x]:=by
  rw [take_grow _ hi]
  unfold finX
  rw [List.map_append,← hx];rfl
theorem ex_start (h0:start∈U):Ex next size U start N [start] 0:=⟨⟨by simp,Nat.zero_le _,fun x hx=>by rw [List.mem_singleton.1 hx];exact h0,fun j x hj=>absurd hj (Nat.not_lt_zero j)⟩,rfl,List.prefix_refl _⟩
theorem Ex.le (h:Ex next size U start N l i):i≤l.length∧l.length≤U.length:=⟨h.met.le,nodup_len h.met.nodup h.met.sub⟩
theorem Ex.step [Inhabited K] (h:Ex next size U start N l i) (hU:∀ x∈U,∀ s,s<size→next x s∈U) (hN:U.length≤N) (hi:i<l.length) (hx:x=l.getD i default):Ex next size U start N (grow next x l size) (i+1):=by
  have hg:l[i]?=some x:=by rw [List.getElem?_eq_getElem hi,hx,el_get hi]
  have hl:=h.le
  refine ⟨h.met.step hU hg,?_,h.head.trans (grow_pre x l size)⟩
  rw [h.reach,show N+1-i=(N+1-(i+1))+1 by omega,clos_some hg]
theorem Ex.fin (h:Ex next size U start N l i) (hi:l.length≤i):Go.Wd.reach next size N start=l:=by
  rw [h.reach]
  have hn:l[i]?=none:=List.getElem?_eq_none hi
  cases hf:N+1-i with
  | zero=>rfl
  | succ f=>exact clos_none hn
/-! maps from what is reached to numbers -/
variable {kv:K→Value}
theorem look_x (hk:∀ a b,kv a=kv b→a=b) (l:List K) (k:K):mlook (int 0) (l.map kv) (vsC l.length) (kv k)=natI (if k∈l then idx l k else 0):=by
  by_cases q:k∈l
  · rw [if_pos q,mlook_map (fun b _ e=>hk b k e) q];rfl
  · rw [if_neg q,mlook_not (fun b _ e=>hk b k e) q];rfl
theorem has_x (hk:∀ a b,kv a=kv b→a=b) (l:List K) (k:K):mhas (l.map kv) (kv k)=decide (k∈l):=(mhas_map fun b _ e=>hk b k e).trans (decide_eq_decide.2 Iff.rfl)
theorem put_kx (hk:∀ a b,kv a=kv b→a=b) {l:List K} {k:K} (q:k ∉ l):putK (l.map kv) (kv k)=(l++[k]).map kv:=putK_map (fun b _ e=>hk b k e) q
theorem put_vx (hk:∀ a b,kv a=kv b→a=b) {l:List K} {k:K} (q:k ∉ l):putV (l.map kv) (vsC l.length) (kv k) (natI l.length)=vsC (l++[k]).length:=by
  rw [putV_map (fun b _ e=>hk b k e) q,vs_snoc,List.length_append];rfl
omit [DecidableEq K] in
theorem put_k0 (k:K):putK [] (kv k)=[k].map kv:=by unfold putK kpos;rfl
omit [DecidableEq K] in
theorem put_v0 (k:K):putV [] [] (kv k) (int 0)=vsC [k].length:=by unfold putV kpos;rfl
theorem idx_new {l:List K} {k:K} (q:k ∉ l):idx (l++[k]) k=l.length:=idx_snoc q
end
def kvN (n:Nat):Value:=.int .i64 (n:Int)
theorem kvN_inj (a b:Nat) (h:kvN a=kvN b):a=b:=by unfold kvN at h;injection h with _ h;omega
def kvP (x:Nat×Nat):Value:=.agg #[.int .i64 (x.1:Int),.int .i64 (x.2:Int)]
abbrev pairI (x:Nat×Nat):AV:=.agg [natI x.1,natI x.2]
theorem kvP_inj (a b:Nat×Nat) (h:kvP a=kvP b):a=b:=by
  unfold kvP at h
  injection h with h
  have h:=congrArg Array.toList h
  simp only [List.cons.injEq,Value.int.injEq,true_and,and_true] at h
  exact Prod.ext (by omega) (by omega)
end Go.Wd

namespace Go.Wd
open Go.Am
def zeroD:Dfa:=⟨0,[],[]⟩
def minZ (d:Dfa):Dfa:=if validD d=true then minP d else zeroD
theorem minZ_t {d:Dfa} (h:validD d=true):minZ d=minP d:=if_pos h
theorem minZ_f {d:Dfa} (h:validD d=false):minZ d=zeroD:=if_neg (by rw [h];decide)
def fl (n:Nat):List Nat→Nat→List Nat
  | [],_=>List.replicate n 0
  | c :: r,j=>(fl n r (j+1)).set c j
theorem fl_len (n:Nat):∀ (l:List Nat) (j:Nat),(fl n l j).length=n
  | [],_=>List.length_replicate
  | c :: r,j=>by rw [fl,List.length_set,fl_len n r]
theorem fl_get {n:Nat}:∀ {l:List Nat} {j c:Nat},(∀ x∈l,x<n)→c∈l→(fl n l j).getD c 0=j+idx l c
  | [],_,_,_,h=>by cases h
  | a :: r, j, c, hl, h => by
    rw [fl,List.getD_eq_getElem?_getD,List.getElem?_set]
    by_cases q:a=c
    · subst q
      rw [if_pos rfl,if_pos (by rw [fl_len];exact hl a List.mem_cons_self)]
      unfold idx;rw [List.idxOf_cons_self];rfl
    · have hc : c ∈ r := by rcases List.mem_cons.1 h with e | h; exact absurd e.symm q; exact h
      rw [if_neg q,← List.getD_eq_getElem?_getD,fl_get (fun x hx=>hl x (List.mem_cons_of_mem _ hx)) hc]
      unfold idx
      rw [List.idxOf_cons,beq_eq_false_iff_ne.2 q]
      show j+1+List.idxOf c r=j+(List.idxOf c r+1)
      omega
theorem fl_step {n:Nat} {cl:List Nat} {q:Nat} (h:q<cl.length):fl n (cl.drop q) q=(fl n (cl.drop (q+1)) (q+1)).set (cl.getD q default) q:=by
  rw [List.drop_eq_getElem_cons h,el_get h,fl]
theorem fl_stepI {n:Nat} {cl:List Nat} {q:Nat} (h:q<cl.length):((fl n (cl.drop (q+1)) (q+1)).map natI).set (cl.getD q default) (natI q)=(fl n (cl.drop q) q).map natI:=by
  rw [fl_step h,List.map_set]
theorem fl_start (n:Nat) (cl:List Nat):fl n (cl.drop cl.length) cl.length=List.replicate n 0:=by rw [List.drop_length];rfl
section
variable {d:Dfa}
theorem cls_lt (hd:okD d):∀ x∈clsF d,x<d.n:=by
  have key:∀ (f c:Nat) (cl:List Nat),(∀ x∈cl,x<d.n)→∀ x∈clsIt d f c cl,x<d.n:=by
    intro f
    induction f with
    | zero=>intro c cl _;exact step_lt cl
    | succ f ih =>
      intro c cl h
      rw [clsIt]
      split
      · exact step_lt cl
      · exact ih _ _ (step_lt cl)
  exact key _ _ _ fun x hx=>by rw [(List.mem_replicate.1 hx).2];exact hd.1.2.1.1
theorem first_get (hd:okD d) {c:Nat} (hc:c∈clsF d):(fl d.n (clsF d) 0).getD c 0=idx (clsF d) c:=by
  rw [fl_get (cls_lt hd) hc];omega
/-! the reference's numbers -/
def nm (n:Nat) (l:List Nat):List Int:=(List.range n).map fun c=>if c∈l then ((idx l c:Nat):Int) else -1
theorem nm_len (n:Nat) (l:List Nat):(nm n l).length=n:=by unfold nm;simp
theorem nm_get {n:Nat} {l:List Nat} {c:Nat} (hc:c<n):(nm n l).getD c default=if c∈l then ((idx l c:Nat):Int) else -1:=by
  unfold nm;rw [List.getD_eq_getElem?_getD,List.getElem?_map,List.getElem?_range hc];rfl
theorem nm_nil (n:Nat):nm n []=List.replicate n (-1):=by
  unfold nm
  refine List.ext_getElem (by simp) fun i h1 h2=>?_
  simp
theorem nm_el {n:Nat} {l:List Nat} {i:Nat} (h:i<(nm n l).length):(nm n l)[i]=if i∈l then ((idx l i:Nat):Int) else -1:=by simp [nm]
theorem nm_snoc {n:Nat} {l:List Nat} {c:Nat} (hc:c<n) (h:c ∉ l):(nm n l).set c (l.length:Int)=nm n (l++[c]):=by
  refine List.ext_getElem (by rw [List.length_set,nm_len,nm_len]) fun i h1 h2=>?_
  rw [List.getElem_set,nm_el,nm_el]
  by_cases q:c=i
  · subst q
    rw [if_pos rfl,if_pos (by simp),idx_snoc h]
  · rw [if_neg q]
    by_cases q2:i∈l
    · rw [if_pos q2,if_pos (List.mem_append_left _ q2),idx_pre (List.prefix_append l [c]) q2]
    · rw [if_neg q2,if_neg fun q3=>by rcases List.mem_append.1 q3 with q3|q3;exact q2 q3;exact q (List.mem_singleton.1 q3).symm]
theorem nm_snocI {n:Nat} {l:List Nat} {c:Nat} (hc:c<n) (h:c ∉ l):((nm n l).map int).set c (natI l.length)=(nm n (l++[c])).map int:=by
  rw [← nm_snoc hc h,List.map_set]
def mo (n i:Nat):List Int:=List.replicate i (-1)++List.replicate (n-i) 0
theorem mo_len {n i:Nat} (h:i≤n):(mo n i).length=n:=by unfold mo;simp;omega
theorem mo_set {n i:Nat} (h:i<n):((mo n i).map int).set i (int (-1))=(mo n (i+1)).map int:=by
  rw [← List.map_set]
  unfold mo
  rw [List.set_append_right _ _ (by simp),List.length_replicate,Nat.sub_self,show n-i=(n-(i+1))+1 by omega,List.replicate_succ,List.set_cons_zero,List.replicate_succ' (n:=i)]
  simp
theorem mo_all (n:Nat):mo n n=nm n []:=by rw [nm_nil];unfold mo;simp
theorem mo_zero (n:Nat):mo n 0=List.replicate n 0:=by unfold mo;simp
structure Rp (d:Dfa) (l st:List Nat):Prop where
  map:st.map (fun q=>(clsF d).getD q 0)=l
  lt:∀ q∈st,q<d.n
theorem Rp.len {l st:List Nat} (h:Rp d l st):st.length=l.length:=by rw [← h.map,List.length_map]
theorem Rp.at {l st:List Nat} (h:Rp d l st) {i:Nat} (hi:i<st.length):(clsF d).getD (st.getD i default) 0=l.getD i default:=by
  have hl:=h.len
  rw [el_get (show i<l.length by omega),el_get hi]
  have:=congrArg (fun m:List Nat=>m[i]?) h.map
  simp only [List.getElem?_map,List.getElem?_eq_getElem hi,Option.map_some] at this
  rw [List.getElem?_eq_getElem (by omega)] at this
  injection this
theorem Rp.snoc {l st:List Nat} (h:Rp d l st) {q:Nat} (hq:q<d.n):Rp d (l++[(clsF d).getD q 0]) (st++[q]):=⟨by rw [List.map_append,h.map];rfl,fun x hx=>by
  rcases List.mem_append.1 hx with hx|hx
  · exact h.lt x hx
  · rw [List.mem_singleton.1 hx];exact hq⟩
theorem nm_neg {n c:Nat} {l:List Nat} (hc:c<n) (h:(nm n l).getD c default<0):c ∉ l:=fun q=>by
  rw [nm_get hc,if_pos q] at h;omega
theorem nm_pos {n c:Nat} {l:List Nat} (hc:c<n) (h:0≤(nm n l).getD c default):c∈l:=Decidable.byContradiction fun q=>by
  rw [nm_get hc,if_neg q] at h;omega
theorem nm_hit {n c:Nat} {l:List Nat} (hc:c<n) (h:c∈l):(nm n l).getD c default=((idx l c:Nat):Int):=by rw [nm_get hc,if_pos h]
theorem min_cells {l:List Nat} (hd:okD d) (h:reach (mnext d) d.k d.n (mstart d)=l):minP d=⟨d.size,rowsX (mnext d) d.k l l,finX (mfin d) l⟩:=by
  unfold minP mlist mkD rowsX finX
  rw [h,(kk hd).1]
theorem rI_all {K:Type} [DecidableEq K] {next:K→Nat→K} {size:Nat} {x:K} {l:List K}:rI next x l size=rB next size x l size:=by unfold rB;simp
theorem pre_at {α:Type} [Inhabited α] {l m:List α} (h:l <+: m) {i:Nat} (hi:i<l.length):m.getD i default=l.getD i default:=by
  obtain ⟨r,rfl⟩:=h
  rw [List.getD_eq_getElem?_getD,List.getElem?_append_left hi,← List.getD_eq_getElem?_getD]
end
end Go.Wd

namespace Go.Wd
def lexB:List Nat→List Nat→Bool
  | [],_=>false
  | _,[]=>false
  | x :: v,y :: w=>if x=y then lexB v w else decide (x<y)
def ahead (v w:List Nat):Bool:=if v.length≠w.length then decide (v.length<w.length) else lexB v w
theorem lex_irr:∀ v:List Nat,lexB v v=false
  | []=>rfl
  | x :: v=>by rw [lexB,if_pos rfl,lex_irr v]
theorem lex_tot:∀ {v w:List Nat},v.length=w.length→v≠w→lexB v w=true∨lexB w v=true
  | [],[],_,h=>absurd rfl h
  | x :: v, y :: w, hl, h => by
    rw [lexB,lexB]
    by_cases e:x=y
    · subst e
      rw [if_pos rfl,if_pos rfl]
      exact lex_tot (by simpa using hl) fun q=>h (by rw [q])
    · rw [if_neg e,if_neg (Ne.symm e),decide_eq_true_eq,decide_eq_true_eq];omega
theorem lex_asymm:∀ {v w:List Nat},lexB v w=true→lexB w v=false
  | [],_,h=>by cases h
  | x :: v,[],h=>by cases h
  | x :: v, y :: w, h => by
    rw [lexB] at h ⊢
    by_cases e:x=y
    · subst e
      rw [if_pos rfl] at h ⊢;exact lex_asymm h
    · rw [if_neg e, decide_eq_true_eq] at h
      rw [if_neg (Ne.symm e)]
      exact decide_eq_false (by omega)
theorem ahead_asymm {v w:List Nat} (h:ahead v w=true):ahead w v=false:=by
  unfold ahead at h ⊢
  by_cases e:v.length=w.length
  · rw [if_neg (by omega)] at h ⊢;exact lex_asymm h
  · rw [if_pos e, decide_eq_true_eq] at h
    rw [if_pos (Ne.symm e)]
    exact decide_eq_false (by omega)
theorem ahead_tot {v w:List Nat} (h:v≠w):ahead v w=true∨ahead w v=true:=by
  unfold ahead
  by_cases e:v.length=w.length
  · rw [if_neg (by omega),if_neg (by omega)];exact lex_tot e h
  · rw [if_pos e,if_pos (Ne.symm e),decide_eq_true_eq,decide_eq_true_eq];omega
def IsLeast (P:List Nat→Prop) (w:List Nat):Prop:=P w∧∀ v,P v→ahead v w=false
theorem least_unique {P:List Nat→Prop} {v w:List Nat} (hv:IsLeast P v) (hw:IsLeast P w):v=w:=by
  refine Classical.byContradiction fun h=>?_
  rcases ahead_tot h with q|q
  · rw [hw.2 v hv.1] at q;cases q
  · rw [hv.2 w hw.1] at q;cases q
theorem lex_trans : ∀ {u v w : List Nat}, u.length = v.length → v.length = w.length → lexB u v = true → lexB v w = true → lexB u w = true
  | [],_,_,_,_,h,_=>by cases h
  | x :: u,[],_,_,_,h,_=>by cases h
  | x :: u,y :: v,[],_,_,_,h=>by cases h
  | x :: u, y :: v, z :: w, h1, h2, h, g => by
    rw [lexB] at h g ⊢
    by_cases e:x=y
    · subst e
      rw [if_pos rfl] at h
      by_cases e2:x=z
      · subst e2
        rw [if_pos rfl] at g ⊢
        exact lex_trans (by simpa using h1) (by simpa using h2) h g
      · rw [if_neg e2] at g ⊢;exact g
    · rw [if_neg e, decide_eq_true_eq] at h
      by_cases e2:y=z
      · subst e2
        rw [if_neg e,decide_eq_true_eq];exact h
      · rw [if_neg e2, decide_eq_true_eq] at g
        rw [if_neg (by omega),decide_eq_true_eq];omega
theorem ahead_trans {u v w:List Nat} (h:ahead u v=true) (g:ahead v w=true):ahead u w=true:=by
  unfold ahead at *
  by_cases e1:u.length=v.length
  · by_cases e2 : v.length = w.length
    · rw [if_neg (by omega)] at h g ⊢
      exact lex_trans e1 e2 h g
    · rw [if_pos e2, decide_eq_true_eq] at g
      rw [if_pos (by omega),decide_eq_true_eq];omega
  · rw [if_pos e1, decide_eq_true_eq] at h
    by_cases e2:v.length=w.length
    · rw [if_pos (by omega),decide_eq_true_eq];omega
    · rw [if_pos e2, decide_eq_true_eq] at g
      rw [if_pos (by omega),decide_eq_true_eq];omega
theorem lex_snoc:∀ {v w:List Nat} {a b:Nat},v.length=w.length→lexB (v++[a]) (w++[b])=if v=w then decide (a<b) else lexB v w
  | [], [], a, b, _ => by
    rw [if_pos rfl]
    show lexB [a] [b]=_
    rw [lexB]
    by_cases e:a=b
    · rw [if_pos e]
      show false=_
      exact (decide_eq_false (by omega)).symm
    · rw [if_neg e]
  | x :: v, y :: w, a, b, h => by
    show lexB (x :: (v++[a])) (y :: (w++[b]))=_
    rw [lexB,lexB,lex_snoc (by simpa using h)]
    by_cases e:x=y
    · subst e
      rw [if_pos rfl,if_pos rfl]
      by_cases e2:v=w
      · rw [if_pos e2,if_pos (by rw [e2])]
      · rw [if_neg e2,if_neg fun q=>e2 (by injection q)]
    · rw [if_neg e,if_neg e,if_neg fun q=>e (by injection q)]
section
variable {K:Type} [DecidableEq K] (next:K→Nat→K) (size:Nat)
abbrev Pth (K:Type):Type:=K×List Nat
def addW (l:List (Pth K)) (k:K) (w:List Nat):List (Pth K):=if k∈l.map (·.1) then l else l++[(k,w)]
def growW (p:Pth K) (l:List (Pth K)):Nat→List (Pth K)
  | 0=>l
  | s+1=>addW (growW p l s) (next p.1 s) (p.2++[s])
def seekW (good : K → Bool) : Nat → Nat → List (Pth K) → Option (List Nat)
  | 0,_,_=>none
  | f + 1, i, l => match l[i]? with
    | none=>none
    | some p=>if good p.1=true then some p.2 else seekW good f (i+1) (growW next p l size)
variable {next size}
def Inc (l:List (Pth K)):Prop:=l.Pairwise fun p q=>ahead p.2 q.2=true
end
end Go.Wd

