/- Part 16 of the proof of the law. -/
import Derived.Test.YtoemghmemdnelaaGreatDoorGP15
import Derived.Test.YtoemghmemdnelaaGreatDoorCards
import Derived.Test.YtoemghmemdnelaaGreatDoorTie
import Derived.ChangeMaps5
import Derived.Deep.DeepHandedRow
import Derived.Stop.LaidErr
import Derived.Deep.DeepLaidRun
set_option linter.unusedVariables false
set_option linter.unusedSimpArgs false
noncomputable section
set_option maxRecDepth 10000
namespace Go.Sim
open Go.RowKit Go.Proofs Go.ChangeShapes Go.WideShapes Go.ChangeAt
theorem xhV {P:Program} {w:World} (h:w.ShapedOpen P) (hg:P.globals.size<P.low):P.low≤w.heap.size:=by
 obtain ⟨o,o₀,h1,_,_⟩:=h.2 (P.low - 1) (by omega) (by unfold Program.low at hg ⊢;omega)
 rcases Nat.lt_or_ge (P.low - 1) w.heap.size with h'|h'
 · omega
 · rw [Array.getElem?_eq_none h'] at h1;simp at h1
def cellsOfData:DataW Unit→List Value
 | .lit (.int k n)=>[.int k n]
 | .agg l=>l.flatMap fun d=>match d with
  | .lit (.int k n)=>[.int k n]
  | .agg l'=>l'.flatMap fun d'=>match d' with
   | .lit (.int k n)=>[.int k n]
   | _=>[]
  | _=>[]
 | _=>[]
noncomputable def laidHeap (P:Program):List (String×DataW Unit)→Array Obj→Array Obj
 | [],h=>h
 | x::r,h=>laidHeap P r (match P.globalNamed x.1 with
  | some g=>h.modify g fun o=>match o with
   | .cells _ t frozen=>.cells (cellsOfData x.2).toArray t frozen
   | o=>o
  | none=>h)
noncomputable def laidWorld (P:Program) (laid:List (String×DataW Unit)) (os:Os):World :=
 { World.holding P os ⟨#[],#[],[]⟩ with heap:=laidHeap P laid (World.holding P os ⟨#[],#[],[]⟩).heap }
theorem xk1 {H:Type} {enc:TypeId×Value→H} {P:Program} {f:Func} {s:ChangeSpec} {W W':World} {args:Array Value} {ds:List (DataW H)} {before:List MemPlace} {tb:TypeId} (hs:s.vars=[])
  (hW:DataW.Whole enc P f.params.toList s.vars false W args.toList ds [] before) (hfn:(s.fn H ds).results=[.lit (.bool true)]∧(s.fn H ds).args=ds∧(s.fn H ds).vars=[]) (hrt:f.resultTypes=#[tb]) (htb:P.underlying tb=some .bool)
  (hargs:DataW.TrodAll enc P W' 0 (fun b=>decide (b<W.heap.size)) true f.params.toList args.toList ds before) (hb:Below W.heap.size W W'):s.post enc P f false true false false W args (.bool true) W':=by
 refine ⟨ds,[],before,[],before,[],hW,?_,?_,?_,hb.frame _,fun h=>by simp at h⟩
 · simp only [List.append_nil,hfn.1,hrt]
   exact trodAll_cons_mk (shut_bool htb _) trodAll_mk0
 · simpa [hfn.2.1] using hargs
 · simp only [List.append_nil,hfn.2.2,hs];rfl
theorem xet {H:Type} {enc:TypeId×Value→H} {P:Program} {W W':World} (hl:laidOutB P=true) (hb:Below W.heap.size W W'):∀ {ts:List TypeId} {vs:List Value} {ds:List (DataW H)} {ps:List MemPlace},(ts.all fun t=>P.readableRec t&&decide (t<P.types.size))=true →
  DataW.TrodAll enc P W 0 (fun _=>true) true ts vs ds ps→DataW.TrodAll enc P W' 0 (fun b=>decide (b<W.heap.size)) true ts vs ds ps
 | [],vs,ds,ps,_,h=>by
  obtain ⟨rfl,rfl,rfl⟩:=trodAll_nil h
  exact trodAll_mk0
 | t::ts,vs,ds,ps,ht,h=>by
  have hlt:=h.lt
  obtain ⟨v,vs',d,ds',p,q,rfl,rfl,rfl,hd,hr⟩:=trodAll_cons h
  simp only [List.all_cons,Bool.and_eq_true,decide_eq_true_eq] at ht
  exact trodAll_cons_mk (Below.trod hl ht.1.1 ht.1.2 hd hb fun x hx=>hlt x (by simp [hx])) (xet hl hb ht.2 hr)
section
variable {H : Type} {enc : TypeId × Value → H} {P : Program} {w : World} {base b n : Nat} {sp : Nat → Bool} {held : Bool} {v : Value} {d : DataW H} {ps : List MemPlace} {t : TypeId}
theorem xhB {T:Ty} (hf:flat P n t=some [T]) (hv:v.cells=#[v]) (hd:DataW.Trod enc P w b sp held t v d ps):∃ a,Rel w (fun _=>False) noBox v a∧OfTy T a∧∀ μ:DataW H→Nat,Meas μ→a.wt≤μ d:=by
 obtain ⟨fuel,hf'⟩:=hd
 rw [hv] at hf'
 obtain ⟨ra,ha,hw⟩:=xdH n t [T] hf fuel _ _ hf'
 cases ha with
 | cons h ht r=>cases r with
  | nil=>exact ⟨_,h,ht,fun μ hμ=>by simpa [AV.wts] using hw μ hμ⟩
theorem xmb {e:TypeId} {es:List Ty} (ht:P.underlying t=some (.slice e)) (hf:flat P n t=some [.slice es]) (hval:Value.okWide P w .any base t v) (hd:DataW.Trod enc P w b sp held t v d ps):∃ a,Rel w (fun _=>False) noBox v a∧OfTy (.slice es) a∧∀ μ:DataW H→Nat,Meas μ→a.wt≤μ d:=by
 obtain ⟨x,len,cap,rfl⟩:=okWide_slice ht hval
 exact xhB hf rfl hd
theorem xma {k:IntKind} (ht:P.underlying t=some (.int k)) (hval:Value.okWide P w .any base t v) (hd:DataW.Trod enc P w b sp held t v d ps):∃ m,Rel w (fun _=>False) noBox v (.int k m)∧(Lit.int k m).wf=true∧∀ μ:DataW H→Nat,Meas μ→(AV.int k m).wt≤μ d:=by
 obtain ⟨m,rfl⟩:=okWide_int ht hval
 obtain ⟨a,h,hT,hB⟩:=xhB (n:=1) (T:=.int k) (by simp [flat,ht]) rfl hd
 cases hT with
 | int _ m' hw =>
  obtain rfl:m'=m:=by cases h;rfl
  exact ⟨m',h,hw,hB⟩
theorem xlf {α:Type} {e:α→AV} {wf:α→Prop} {es:List Ty} (hv:∀ x:AV,x.cells.length=es.length→x=elemOf x.cells→(∀ j,j<es.length→OfTy (es.getD j .bool) (x.cells.getD j .top))→∃ a,x=e a∧wf a) {x:AV} (h:OfTy (.slice es) x) :
  ∃ l:List α,x=.list es.length (l.map e)∧l.length≤maxLen∧∀ a,a∈l→wf a:=by
 cases h with
 | slice _ xs hn hl hx =>
  have:∀ xs:List AV,(∀ x,x∈xs→∃ a,x=e a∧wf a)→∃ l:List α,xs=l.map e∧∀ a,a∈l→wf a:=by
   intro xs
   induction xs with
   | nil=>exact fun _=>⟨[],rfl,fun a h=>by simp at h⟩
   | cons x xs ih =>
    intro h
    obtain ⟨a,rfl,ha⟩:=h x (by simp)
    obtain ⟨l,rfl,hl⟩:=ih fun y hy=>h y (by simp [hy])
    exact ⟨a::l,rfl,fun b hb=>(List.mem_cons.1 hb).elim (fun he=>he▸ha) (fun hb=>hl b hb)⟩
  obtain ⟨l,rfl,hw⟩:=this xs fun x hx'=>hv x (hl x hx').1 (hl x hx').2 (fun j hj=>hx x j hx' hj)
  exact ⟨l,rfl,by simpa using hn,hw⟩
end
end Go.Sim
namespace Go.Sim
open Go.RowKit Go.Proofs Go.ChangeShapes Go.WideShapes Go.ChangeAt Go.Proofs.YtoemghmemdnelaaGreatDoor
theorem laidTryz:laidOutB Tryz.prog=true:=by kernel_rfl
theorem ownTryz:ownKnob Tryz.prog.godebug=none:=by kernel_rfl
theorem lowTryz:Tryz.prog.globals.size<Tryz.prog.low:=of_decide_eq_true (by kernel_rfl)
noncomputable def pow10Global:Nat:=(Tryz.prog.globalNamed "internal/strconv.uint64pow10").getD 0
theorem xk2:Rows.laid_internal_strconv_uint64pow10=(Lib.tabData .u64 Lib.pow10Tab:DataW Unit):=by kernel_rfl
theorem xmv {W:World} {r:List (String×DataW Unit)} {a b:String×DataW Unit} (hl:r=[a,b,("internal/strconv.uint64pow10",Rows.laid_internal_strconv_uint64pow10)]) (hp:(r.all fun x=>x.2.handleName?.isNone)=true) (hL:laidMetH Tryz.prog r W) (hsh:W.ShapedOpen Tryz.prog):ITryz W:=by
 rw [MakeChecks.laidMetH_plain _ _ _ hp] at hL
 subst hl
 refine ⟨hsh,xhV hsh lowTryz,?_⟩
 have h:=hL.tail.tail
 rw [xk2] at h
 exact Lib.tabIs_of_head (g:=pow10Global) (t:=(Tryz.prog.globals[pow10Global]?).map (·.type) |>.getD 0) (e:=194) (n:=20) (by kernel_rfl) (by kernel_rfl) (by kernel_rfl) (by kernel_rfl) (by kernel_rfl) (by kernel_rfl) h
def I64 (n:Int):Prop:=(Lit.int .i64 n).wf=true
def M.Fc.wf (x:M.Fc):Prop:=M.Row.wf x.r∧I64 x.p.1∧I64 x.p.2
def tyP:List Ty:=[.int .i64,.int .i64]
theorem xjB:flat Tryz.prog 9 33=some [.slice tyP]:=by kernel_rfl
theorem xlq:flat Tryz.prog 9 35=some [.int .i64,.int .i64]:=by kernel_rfl
def M.PerWf (p:M.Per):Prop:=(Lit.int .i64 p.1).wf=true∧(Lit.int .i64 p.2).wf=true
theorem xlK (x:AV) (hl:x.cells.length=tyP.length) (he:x=elemOf x.cells) (hx:∀ j,j<tyP.length→OfTy (tyP.getD j .bool) (x.cells.getD j .top)):∃ a,x=M.encP a∧M.PerWf a:=by
 generalize x.cells=cs at *
 match cs,hl with
 | [c0,c1],_ =>
  have h0:=hx 0 (by decide)
  have h1:=hx 1 (by decide)
  change OfTy (.int .i64) c0 at h0
  change OfTy (.int .i64) c1 at h1
  cases h0 with
  | int _ k hk=>cases h1 with
   | int _ i hi=>exact ⟨(k,i),he,hk,hi⟩
section
variable {H : Type} {enc : TypeId × Value → H} {w : World} {base b : Nat} {sp : Nat → Bool} {held : Bool} {v : Value} {d : DataW H} {ps : List MemPlace}
theorem xkx {P:Program} {t:TypeId} {n:Nat} {Ts:List Ty} {fs:Array Field} (ht:P.underlying t=some (.struct fs)) (hf:flat P n t=some Ts) (hval:Value.okWide P w .any base t v) (hd:DataW.Trod enc P w b sp held t v d ps) :
  ∃ cs:List AV,Rel w (fun _=>False) noBox v (.agg cs)∧cs.length=Ts.length∧(∀ j,j<Ts.length→OfTy (Ts.getD j .bool) (cs.getD j .top))∧∀ μ:DataW H→Nat,Meas μ→AV.wts cs≤μ d:=by
 obtain ⟨vs,rfl,_⟩:=okWide_struct ht hval
 obtain ⟨fuel,hf'⟩:=hd
 obtain ⟨xs,ha,hw⟩:=xdH n t Ts hf fuel _ _ hf'
 obtain ⟨l1,l2⟩:=ha.len
 have l1':vs.size=Ts.length:=by simpa [Value.cells] using l1
 refine ⟨xs,.agg vs xs (by omega) fun i hi=>?_,l2,fun j hj=>(ha.get j hj).2,fun μ hμ=>hw μ hμ⟩
 have:=(ha.get i (by omega)).1
 simpa [Value.cells,List.getD_eq_getElem?_getD,Array.getD_eq_getD_getElem?] using this
theorem xlz (hval:Value.okWide Tryz.prog w .any base 35 v) (hd:DataW.Trod enc Tryz.prog w b sp held 35 v d ps):∃ p:M.Per,Rel w (fun _=>False) noBox v (.agg [.int .i64 p.1,.int .i64 p.2])∧(∀ μ:DataW H→Nat,Meas μ→(AV.agg [.int .i64 p.1,.int .i64 p.2]).wt≤μ d)∧M.PerWf p:=by
 obtain ⟨cs,h,hl,hx,hB⟩:=xkx Tryz.underlying35 xlq hval hd
 match cs,hl with
 | [c0,c1],_ =>
  have h0:=hx 0 (by decide)
  have h1:=hx 1 (by decide)
  change OfTy (.int .i64) c0 at h0
  change OfTy (.int .i64) c1 at h1
  cases h0 with
  | int _ n0 w0=>cases h1 with
   | int _ n1 w1=>exact ⟨(n0,n1),h,fun μ hμ=>hB μ hμ,w0,w1⟩
theorem xjN (hval:Value.okWide Tryz.prog w .any base 33 v) (hd:DataW.Trod enc Tryz.prog w b sp held 33 v d ps):∃ l:List M.Per,Rel w (fun _=>False) noBox v (.list 2 (l.map M.encP))∧(∀ μ:DataW H→Nat,Meas μ→(AV.list 2 (l.map M.encP)).wt≤μ d)∧(l.length≤maxLen∧∀ y,y∈l→M.PerWf y):=by
 obtain ⟨a,h,hT,hB⟩:=xmb Tryz.underlying33 xjB hval hd
 obtain ⟨l,rfl,hw⟩:=xlf (es:=tyP) xlK hT
 exact ⟨l,h,hB,hw⟩
theorem xly (hval:Value.okWide Tryz.prog w .any base 3 v) (hd:DataW.Trod enc Tryz.prog w b sp held 3 v d ps):∃ m:Int,Rel w (fun _=>False) noBox v (.int .i64 m)∧(∀ μ:DataW H→Nat,Meas μ→(AV.int .i64 m).wt≤μ d)∧(Lit.int .i64 m).wf=true:=by
 obtain ⟨m,h1,h2,h3⟩:=xma Tryz.underlying3 hval hd
 exact ⟨m,h1,h3,h2⟩
end
end Go.Sim
end
noncomputable section
namespace Go.Sim.M
open Go.RowKit Go.Sim.Srt
def Strict {α:Type} (c:α→α→Int) (l:List α):Prop:=l.Pairwise fun x y=>c x y<0
theorem Cm.self {α:Type} {c:α→α→Int} (h:Cm c) (x:α):c x x=0:=by have:=h.swap x x;omega
theorem Strict.nodup {α:Type} {c:α→α→Int} (hc:Cm c) {l:List α} (h:Strict c l):l.Nodup :=
 List.Pairwise.imp (fun {x y} hxy he=>by subst he;rw [hc.self] at hxy;omega) h
theorem xiA {A:List Per} (h:IsSpan A) (h0:∀ t,inL A t=false):A=[]:=xfO h xjH fun t=>by rw [h0,xd5]
structure IsLevs (N:Int→Nat) (P:List Per):Prop where
 sorted:Sorted cmpP P
 lev:∃ (A:Nat→List Per) (H:Nat),(∀ t,N t≤H)∧(∀ h,IsSpan (A h)∧∀ t,inL (A h) t=decide (h<N t))∧P.Perm ((List.range H).flatMap A)
theorem xem (A:Nat→List Per) (H:Nat) (h0:∀ h,H≤h→A h=[]):∀ d,(List.range (H+d)).flatMap A=(List.range H).flatMap A
 | 0=>rfl
 | d+1=>by rw [←Nat.add_assoc,List.range_succ,List.flatMap_append,xem A H h0 d,List.flatMap_cons,h0 (H+d) (by omega)];simp
theorem xl4 {A:List Per} {N:Int→Nat} {k:Nat} (hs:IsSpan A) (hN:∀ t,inL A t=decide (k<N t)) {p:Per} (hp:p∈A):(∀ t,p.1≤t→t<p.2→k<N t)∧N (p.1 - 1)≤k∧N p.2≤k:=by
 have hv:=xaW.1 (hs.1 p hp)
 refine ⟨fun t h1 h2=>?_,?_,?_⟩
 · have:inL A t=true:=xbC.2 ⟨p,hp,hs.1 p hp,h1,h2⟩
   rw [hN] at this;simpa using this
 · have:inL A (p.1 - 1)=false:=by
    cases hc:inL A (p.1 - 1) with
    | false=>rfl
    | true =>
     obtain ⟨q,hq,hqv,h1,h2⟩:=xbC.1 hc
     have hne:p≠q:=fun e=>by subst e;omega
     rcases pairwise_mem hs.2 hp hq hne with h|h<;>omega
   rw [hN] at this;simpa using this
 · have:inL A p.2=false:=by
    cases hc:inL A p.2 with
    | false=>rfl
    | true =>
     obtain ⟨q,hq,hqv,h1,h2⟩:=xbC.1 hc
     have hne:p≠q:=fun e=>by subst e;omega
     rcases pairwise_mem hs.2 hp hq hne with h|h<;>omega
   rw [hN] at this;simpa using this
where
 pairwise_mem {l:List Per} (h:l.Pairwise fun p q=>p.2<q.1) {p q:Per} (hp:p∈l) (hq:q∈l) (hne:p≠q):p.2<q.1∨q.2<p.1:=by
  induction l with
  | nil=>simp at hp
  | cons x l ih =>
   obtain ⟨h1,h2⟩:=List.pairwise_cons.1 h
   rcases List.mem_cons.1 hp with e1|hp1
   · rcases List.mem_cons.1 hq with e2|hq1
     · exact absurd (e1.trans e2.symm) hne
     · exact .inl (e1▸h1 q hq1)
   · rcases List.mem_cons.1 hq with e2|hq1
     · exact .inr (e2▸h1 p hp1)
     · exact ih h2 hp1 hq1
def cnt (l:List Fc) (r:Row) (t:Int):Nat:=l.countP fun f=>decide (f.r=r)&&hasP f.p t
def IsRows (l:List Fc) (R:List Row):Prop:=Strict cmpR R∧∀ r,r∈R↔∃ f,f∈l∧f.r=r∧pv f.p=true
theorem xje {l:List Fc} {r:Row} {t:Int}:0<cnt l r t↔∃ f,f∈l∧f.r=r∧hasP f.p t=true:=by
 unfold cnt
 rw [List.countP_pos_iff]
 simp
theorem xld {p:Per} (h:pv p=true):hasP p p.1=true:=by
 have:=xaW.1 h
 exact xa5.2 ⟨h,by omega,by omega⟩
theorem xhr {p:Per} {t:Int} (h:hasP p t=true):pv p=true:=(xa5.1 h).1
theorem xlE {l:List Fc} {r:Row}:(∃ f,f∈l∧f.r=r∧pv f.p=true)↔∃ t,0<cnt l r t:=by
 constructor
 · rintro ⟨f,h1,h2,h3⟩
   exact ⟨f.p.1,xje.2 ⟨f,h1,h2,xld h3⟩⟩
 · rintro ⟨t,h⟩
   obtain ⟨f,h1,h2,h3⟩:=xje.1 h
   exact ⟨f,h1,h2,xhr h3⟩
def facts (R:List Row) (L:Row→List Per):List Fc:=R.flatMap fun r=>(L r).map fun p=>⟨r,p⟩
def IsBag (l B:List Fc):Prop:=∃ R L,IsRows l R∧(∀ r,r∈R→IsLevs (cnt l r) (L r))∧B=facts R L
theorem IsRows.zero {l:List Fc} {R:List Row} (h:IsRows l R) {r:Row} (hr:r∉R) (t:Int):cnt l r t=0:=by
 cases hc:cnt l r t with
 | zero=>rfl
 | succ n=>exact absurd ((h.2 r).2 (xlE.2 ⟨t,by omega⟩)) hr
def psOf (l:List Fc) (r:Row):List Per:=(l.filter fun f=>decide (f.r=r)&&pv f.p).map (·.p)
theorem xmC (l:List Fc) (r:Row) (t:Int):(psOf l r).countP (hasP · t)=cnt l r t:=by
 unfold psOf cnt
 rw [List.countP_map,List.countP_filter]
 refine List.countP_congr fun f _=>?_
 simp only [Function.comp,Bool.and_eq_true,decide_eq_true_eq]
 constructor
 · rintro ⟨h1,h2,_⟩;exact ⟨h2,h1⟩
 · rintro ⟨h1,h2⟩;exact ⟨h2,h1,xhr h2⟩
theorem xjz {ps:List Per} {t:Int} {k:Nat} (h1:k<ps.countP (hasP · t)) (h2:ps.countP (hasP · (t - 1))≤k):t∈ps.map (·.1):=by
 have:∃ p,p∈ps∧hasP p t=true∧hasP p (t - 1)=false:=by
  refine Classical.byContradiction fun hn=>?_
  have:ps.countP (hasP · t)≤ps.countP (hasP · (t - 1)):=List.countP_mono_left fun p hp h=>by
   cases hc:hasP p (t - 1) with
   | true=>rfl
   | false=>exact absurd ⟨p,hp,h,hc⟩ hn
  omega
 obtain ⟨p,hp,a,b⟩:=this
 obtain ⟨hv,x,y⟩:=xa5.1 a
 have:¬ p.1≤t - 1:=fun h=>by rw [xa5.2 ⟨hv,h,by omega⟩] at b;cases b
 exact List.mem_map.2 ⟨p,hp,by omega⟩
theorem xl3 {ps A:List Per} {k:Nat} (hs:IsSpan A) (hN:∀ t,inL A t=decide (k<ps.countP (hasP · t))):A.length≤ps.length:=by
 have hn:(A.map (·.1)).Nodup:=by
  unfold List.Nodup
  rw [List.pairwise_map]
  refine List.Pairwise.imp_of_mem (fun {p q} hp hq h=>?_) hs.2
  have:=xaW.1 (hs.1 p hp);omega
 have:(A.map (·.1)) ⊆ ps.map (·.1):=fun t ht=>by
  obtain ⟨p,hp,rfl⟩:=List.mem_map.1 ht
  obtain ⟨a,b,_⟩:=xl4 (N:=fun t=>ps.countP (hasP · t)) hs hN hp
  have hv:=xaW.1 (hs.1 p hp)
  exact xjz (a p.1 (Int.le_refl _) (by omega)) b
 have:=hn.length_le_of_subset this
 simpa using this
theorem IsLevs.len {ps P:List Per} (h:IsLevs (fun t=>ps.countP (hasP · t)) P):P.length≤ps.length*ps.length:=by
 obtain ⟨A,H,h1,h2,h3⟩:=h.lev
 have hx:P.length=((List.range ps.length).flatMap A).length:=by
  rw [h3.length_eq]
  have nil:∀ k,ps.length≤k→A k=[]:=fun k hk=>xiA (h2 k).1 fun t=>by
   rw [(h2 k).2]
   have:=List.countP_le_length (p:=(hasP · t)) (l:=ps)
   simp;omega
  have nil2:∀ k,H≤k→A k=[]:=fun k hk=>xiA (h2 k).1 fun t=>by
   rw [(h2 k).2];have:=h1 t;simp;omega
  rcases Nat.le_total H ps.length with hle|hle
  · have:=xem A H nil2 (ps.length - H)
    rw [show H+(ps.length - H)=ps.length by omega] at this
    rw [this]
  · have:=xem A ps.length nil (H - ps.length)
    rw [show ps.length+(H - ps.length)=H by omega] at this
    rw [this]
 rw [hx]
 have:=xij (g:=A) (c:=ps.length) (List.range ps.length) fun k _=>xl3 (h2 k).1 (h2 k).2
 simpa using this
theorem xhu {L:Row→List Per}:∀ {R:List Row} {l:List Fc},R.Nodup→(∀ r,r∈R→(L r).length≤(psOf l r).length*(psOf l r).length)→(facts R L).length≤l.length*l.length
 | [],l,_,_=>by simp [facts]
 | r::R,l,hn,h=>by
  obtain ⟨n1,n2⟩:=List.nodup_cons.1 hn
  have e:facts (r::R) L=((L r).map fun p=>(⟨r,p⟩:Fc))++facts R L:=by simp [facts]
  let l2:=l.filter fun f=>!decide (f.r=r)
  have hps:∀ r',r'∈R→psOf l2 r'=psOf l r':=fun r' hr'=>by
   have hne:r'≠r:=fun e=>n1 (e▸hr')
   unfold psOf
   simp only [l2,List.filter_filter]
   congr 1
   refine List.filter_congr fun f _=>?_
   by_cases hf:f.r=r'
   · have:¬ f.r=r:=fun e=>hne (hf▸e)
     simp [hf,hne]
   · simp [hf]
  have ih:=xhu (L:=L) (l:=l2) n2 fun r' hr'=>by rw [hps r' hr'];exact h r' (by simp [hr'])
  have h1:=h r (by simp)
  have hl:(psOf l r).length+l2.length≤l.length:=by
   unfold psOf
   rw [List.length_map]
   have:=List.length_eq_countP_add_countP (fun f:Fc=>decide (f.r=r)) (l:=l)
   have a1:(l.filter fun f=>decide (f.r=r)&&pv f.p).length≤l.countP fun f=>decide (f.r=r):=by
    rw [←List.countP_eq_length_filter]
    exact List.countP_mono_left fun f _ hf=>by simp only [Bool.and_eq_true] at hf;exact hf.1
   have a2:l2.length=l.countP fun f=>¬ decide (f.r=r)=true:=by
    rw [List.countP_eq_length_filter];simp [l2]
   omega
  rw [e,List.length_append,List.length_map]
  have m1:=Nat.mul_le_mul hl hl
  have m2:(psOf l r).length*(psOf l r).length+l2.length*l2.length≤((psOf l r).length+l2.length)*((psOf l r).length+l2.length):=by
   rw [Nat.add_mul,Nat.mul_add,Nat.mul_add];omega
  omega
theorem IsBag.len {l B:List Fc} (h:IsBag l B):B.length≤l.length*l.length:=by
 obtain ⟨R,L,h1,h2,rfl⟩:=h
 refine xhu (h1.1.nodup xmU) fun r hr=>?_
 have:=h2 r hr
 rw [show cnt l r=fun t=>(psOf l r).countP (hasP · t) from funext fun t=>(xmC l r t).symm] at this
 exact this.len
end Go.Sim.M
end
noncomputable section
namespace Go.Sim.M
open Go.RowKit Go.Sim.Srt
structure StepI (N:Int→Int) (T:Int) (S:List Per):Prop where
 asc:S.Pairwise fun a b=>a.1<b.1
 mem:∀ s,s∈S↔0≤s.1∧s.1<T∧s.2=N s.1∧(s.1=0∨N (s.1 - 1)≠s.2)
 last:0<T→∃ S' f,S=S'++[(f,N (T - 1))]
theorem StepI.nil (N:Int→Int):StepI N 0 []:=⟨List.Pairwise.nil,fun s=>by simp;omega,fun h=>by omega⟩
def putS (S:List Per) (f n:Int):List Per:=match S.getLast? with
 | some s=>if s.2=n then S else S++[(f,n)]
 | none=>S++[(f,n)]
theorem StepI.put {N:Int→Int} {T T':Int} {S:List Per} (h:StepI N T S) (h0:0≤T) (hlt:T<T') (hc:∀ t,T≤t→t<T'→N t=N T):StepI N T' (putS S T (N T)):=by
 rcases Int.lt_or_eq_of_le h0 with hp|hz
 · obtain ⟨S',f,rfl⟩:=h.last hp
   unfold putS
   rw [List.getLast?_append]
   simp only [List.getLast?_singleton,Option.some_or]
   by_cases he:N (T - 1)=N T
   · rw [if_pos he]
     refine ⟨h.asc,fun s=>?_,fun _=>⟨S',f,by rw [he,hc (T' - 1) (by omega) (by omega)]⟩⟩
     rw [h.mem]
     constructor
     · rintro ⟨a,b,c,d⟩;exact ⟨a,by omega,c,d⟩
     · rintro ⟨a,b,c,d⟩
       refine ⟨a,?_,c,d⟩
       rcases Int.lt_or_le s.1 T with hs|hs
       · exact hs
       · exfalso
         have e1:=hc s.1 hs b
         rcases d with d|d
         · omega
         · rcases Int.lt_or_eq_of_le hs with h2|h2
           · have e2:=hc (s.1 - 1) (by omega) (by omega)
             exact d (by rw [e2,c,e1])
           · rw [←h2] at d c;exact d (by rw [he,c])
   · rw [if_neg he]
     refine ⟨?_,fun s=>?_,fun _=>⟨_,T,by rw [hc (T' - 1) (by omega) (by omega)]⟩⟩
     · rw [List.pairwise_append]
       refine ⟨h.asc,List.pairwise_singleton _ _,fun a ha b hb=>?_⟩
       simp only [List.mem_singleton] at hb
       subst hb
       exact ((h.mem a).1 ha).2.1
     · rw [List.mem_append,h.mem,List.mem_singleton]
       constructor
       · rintro (⟨a,b,c,d⟩|rfl)
         · exact ⟨a,by omega,c,d⟩
         · exact ⟨h0,hlt,rfl,.inr he⟩
       · rintro ⟨a,b,c,d⟩
         rcases Int.lt_or_le s.1 T with hs|hs
         · exact .inl ⟨a,hs,c,d⟩
         · right
           have e1:=hc s.1 hs b
           rcases Int.lt_or_eq_of_le hs with h2|h2
           · exfalso
             have e2:=hc (s.1 - 1) (by omega) (by omega)
             rcases d with d|d
             · omega
             · exact d (by rw [e2,c,e1])
           · exact Prod.ext h2.symm (by rw [c,e1])
 · subst hz
   have hS:S=[]:=by
    rw [List.eq_nil_iff_forall_not_mem]
    intro s hs
    have:=(h.mem s).1 hs
    omega
   subst hS
   refine ⟨by simp [putS],fun s=>?_,fun _=>⟨[],0,by simp [putS];exact (hc (T' - 1) (by omega) (by omega)).symm⟩⟩
   simp only [putS,List.getLast?_nil,List.nil_append,List.mem_singleton]
   constructor
   · rintro rfl;exact ⟨Int.le_refl _,hlt,rfl,.inl rfl⟩
   · rintro ⟨a,b,c,d⟩
     have e1:=hc s.1 a b
     rcases Int.lt_or_eq_of_le a with h2|h2
     · exfalso
       have e2:=hc (s.1 - 1) (by omega) (by omega)
       rcases d with d|d
       · omega
       · exact d (by rw [e2,c,e1])
     · exact Prod.ext h2.symm (by rw [c,e1])
end Go.Sim.M
end
noncomputable section
namespace Go.Sim.M
open Go.RowKit Go.Sim.Srt
def setF (s:List Int×List Per) (q:Int×Nat):List Int×List Per:=(s.1.take q.2++List.replicate (q.2 - s.1.length) q.1,s.2++((s.1.drop q.2).reverse.map fun f=>(f,q.1)))
theorem xfz {α β:Type} (A B:α→List β):∀ l:List α,(l.flatMap fun k=>A k++B k).Perm (l.flatMap A++l.flatMap B)
 | []=>List.Perm.refl _
 | a::l=>by
  rw [List.flatMap_cons,List.flatMap_cons,List.flatMap_cons]
  have ih:=xfz A B l
  refine (ih.append_left (A a++B a)).trans ?_
  rw [List.append_assoc,List.append_assoc]
  refine List.Perm.append_left _ ?_
  rw [←List.append_assoc,←List.append_assoc]
  exact List.Perm.append_right _ List.perm_append_comm
theorem xgG {β:Type} (g:Int→β):∀ (F:List Int) (H n:Nat),F.length≤H→(List.range H).flatMap (fun k=>if n≤k then (F[k]?).toList.map g else [])=(F.drop n).map g
 | [],H,n,_=>by
  rw [List.drop_nil,List.map_nil,List.flatMap_eq_nil_iff]
  intro k _
  split<;>simp
 | x::F,0,n,h=>by simp at h
 | x::F,H+1,n,h=>by
  rw [List.range_succ_eq_map,List.flatMap_cons,List.flatMap_map]
  have ih:=xgG g F H (n - 1) (by simpa using h)
  have e:(List.range H).flatMap (fun a=>if n≤a.succ then (((x::F)[a.succ]?).toList).map g else [])=(F.drop (n - 1)).map g:=by
   rw [←ih]
   congr 1
   funext a
   have:(n≤a.succ)=(n - 1≤a):=by rw [eq_iff_iff];omega
   simp only [this,List.getElem?_cons_succ,Nat.succ_eq_add_one]
  rw [e]
  cases n with
  | zero=>simp
  | succ n=>simp
structure LvI (N:Int→Nat) (H:Nat) (at':Int) (F:List Int) (out:List Per) (A:Nat→List Per):Prop where
 perm:out.Perm ((List.range H).flatMap A)
 span:∀ k,IsSpan (A k)
 low:∀ k (h:k<F.length),F[k]≤at'∧0≤F[k]∧∀ p,p∈A k→p.2<F[k]
 high:∀ k,F.length≤k→∀ p,p∈A k→p.2≤at'
 cov:∀ k t,t≤at'→((inL (A k) t=true∨∃ h:k<F.length,F[k]≤t)↔k<N t)
 len:F.length=N at'
 top:F.length≤H
theorem LvI.set {N:Int→Nat} {H:Nat} {a b:Int} {F:List Int} {out:List Per} {A:Nat→List Per} (h:LvI N H a F out A) (hab:a<b) (h0:0≤b) (hb:b≤1099511627776) (hc:∀ t,a≤t→t<b→N t=N a) (hH:N b≤H) :
  ∃ A',LvI N H b (setF (F,out) (b,N b)).1 (setF (F,out) (b,N b)).2 A':=by
 have hl:=h.len
 refine ⟨fun k=>A k++(if N b≤k then (F[k]?).toList.map (fun f=>(f,b)) else []),?_,?_,?_,?_,?_,?_,?_⟩
 · refine (List.Perm.append h.perm ?_).trans (xfz A _ _).symm
   rw [xgG (fun f=>(f,b)) F H (N b) h.top]
   exact (List.reverse_perm _).map _
 · intro k
   by_cases hk:N b≤k
   · rw [if_pos hk]
     by_cases hkF:k<F.length
     · obtain ⟨l1,l2,l3⟩:=h.low k hkF
       rw [List.getElem?_eq_getElem hkF]
       refine ⟨fun p hp=>?_,List.pairwise_append.2 ⟨(h.span k).2,by simp,fun p hp q hq=>?_⟩⟩
       · rcases List.mem_append.1 hp with hp|hp
         · exact (h.span k).1 p hp
         · simp at hp;subst hp;exact xaW.2 ⟨l2,by dsimp only;omega,hb⟩
       · simp at hq;subst hq;exact l3 p hp
     · rw [List.getElem?_eq_none (by omega)];simpa using h.span k
   · rw [if_neg hk,List.append_nil];exact h.span k
 · intro k hk
   simp only [setF] at hk ⊢
   rw [List.length_append,List.length_take,List.length_replicate] at hk
   have hkn:¬ N b≤k:=by omega
   simp only [hkn,if_false,List.append_nil]
   by_cases hkF:k<F.length
   · rw [List.getElem_append_left (by rw [List.length_take];omega),List.getElem_take]
     obtain ⟨l1,l2,l3⟩:=h.low k hkF
     exact ⟨by omega,l2,l3⟩
   · rw [List.getElem_append_right (by rw [List.length_take];omega),List.getElem_replicate]
     exact ⟨Int.le_refl _,h0,fun p hp=>by have:=h.high k (by omega) p hp;omega⟩
 · intro k hk p hp
   simp only [setF] at hk
   rw [List.length_append,List.length_take,List.length_replicate] at hk
   have hkn:N b≤k:=by omega
   simp only [hkn,if_true] at hp
   by_cases hkF:k<F.length
   · rw [List.getElem?_eq_getElem hkF] at hp
     rcases List.mem_append.1 hp with hp|hp
     · obtain ⟨l1,l2,l3⟩:=h.low k hkF
       have:=l3 p hp;omega
     · simp at hp;subst hp;exact Int.le_refl _
   · rw [List.getElem?_eq_none (by omega)] at hp
     simp at hp
     have:=h.high k (by omega) p hp;omega
 · intro k t ht
   have hF1:(setF (F,out) (b,N b)).1=F.take (N b)++List.replicate (N b - F.length) b:=rfl
   have key:(∃ hh:k<(setF (F,out) (b,N b)).1.length,(setF (F,out) (b,N b)).1[k]≤t)↔(k<N b∧((∃ hh:k<F.length,F[k]≤t)∨(F.length≤k∧b≤t))):=by
    constructor
    · rintro ⟨hh,hle⟩
      have hh':=hh
      rw [hF1,List.length_append,List.length_take,List.length_replicate] at hh'
      refine ⟨by omega,?_⟩
      by_cases hkF:k<F.length
      · refine .inl ⟨hkF,?_⟩
        have e:(setF (F,out) (b,N b)).1[k]=F[k]:=by
         simp only [hF1]
         rw [List.getElem_append_left (by rw [List.length_take];omega),List.getElem_take]
        rw [←e];exact hle
      · refine .inr ⟨by omega,?_⟩
        have e:(setF (F,out) (b,N b)).1[k]=b:=by
         simp only [hF1]
         rw [List.getElem_append_right (by rw [List.length_take];omega),List.getElem_replicate]
        rw [←e];exact hle
    · rintro ⟨h1,h2⟩
      have hh:k<(setF (F,out) (b,N b)).1.length:=by rw [hF1,List.length_append,List.length_take,List.length_replicate];omega
      refine ⟨hh,?_⟩
      rcases h2 with ⟨hkF,hle⟩|⟨hkF,hle⟩
      · have e:(setF (F,out) (b,N b)).1[k]=F[k]:=by
         simp only [hF1]
         rw [List.getElem_append_left (by rw [List.length_take];omega),List.getElem_take]
        rw [e];exact hle
      · have e:(setF (F,out) (b,N b)).1[k]=b:=by
         simp only [hF1]
         rw [List.getElem_append_right (by rw [List.length_take];omega),List.getElem_replicate]
        rw [e];exact hle
   rw [key]
   have key2:inL (A k++(if N b≤k then (F[k]?).toList.map (fun f=>(f,b)) else [])) t=true↔inL (A k) t=true∨(N b≤k∧(∃ hh:k<F.length,F[k]≤t)∧t<b):=by
    rw [xcy,Bool.or_eq_true]
    refine or_congr Iff.rfl ?_
    by_cases hkn:N b≤k
    · rw [if_pos hkn]
      by_cases hkF:k<F.length
      · obtain ⟨l1,l2,l3⟩:=h.low k hkF
        rw [List.getElem?_eq_getElem hkF]
        have e:inL ((some F[k]).toList.map fun f=>(f,b)) t=hasP (F[k],b) t:=by simp [inL]
        rw [e,xa5,xaW]
        dsimp only
        constructor
        · rintro ⟨_,h2,h3⟩;exact ⟨hkn,⟨hkF,h2⟩,h3⟩
        · rintro ⟨_,⟨_,h2⟩,h3⟩;exact ⟨⟨l2,by omega,hb⟩,h2,h3⟩
      · rw [List.getElem?_eq_none (by omega)]
        simp only [Option.toList_none,List.map_nil,xd5,Bool.false_eq_true,false_iff]
        rintro ⟨_,⟨hh,_⟩,_⟩;omega
    · rw [if_neg hkn,xd5]
      simp only [Bool.false_eq_true,false_iff]
      rintro ⟨hh,_⟩;omega
   rw [key2]
   by_cases hta:t≤a
   · have hcov:=h.cov k t hta
     rw [←hcov]
     constructor
     · rintro ((h1|⟨_,h2,_⟩)|⟨_,h2|⟨_,h3⟩⟩)
       · exact .inl h1
       · exact .inr h2
       · exact .inr h2
       · omega
     · rintro (h1|h2)
       · exact .inl (.inl h1)
       · by_cases hkn:N b≤k
         · exact .inl (.inr ⟨hkn,h2,by omega⟩)
         · exact .inr ⟨by omega,.inl h2⟩
   · have hin:inL (A k) t=true→False:=fun hi=>by
      obtain ⟨p,hp,_,p1,p2⟩:=xbC.1 hi
      by_cases hkF:k<F.length
      · obtain ⟨l1,l2,l3⟩:=h.low k hkF
        have:=l3 p hp;omega
      · have:=h.high k (by omega) p hp;omega
     have hex:(∃ hh:k<F.length,F[k]≤t)↔k<F.length:=⟨fun ⟨hh,_⟩=>hh,fun hh=>⟨hh,by have:=(h.low k hh).1;omega⟩⟩
     rw [hex]
     by_cases htb:t<b
     · rw [hc t (by omega) htb,←hl]
       constructor
       · rintro ((h1|⟨_,h2,_⟩)|⟨_,h2|⟨_,h3⟩⟩)
         · exact (hin h1).elim
         · exact h2
         · exact h2
         · omega
       · intro hkF
         by_cases hkn:N b≤k
         · exact .inl (.inr ⟨hkn,hkF,htb⟩)
         · exact .inr ⟨by omega,.inl hkF⟩
     · obtain rfl:t=b:=by omega
       constructor
       · rintro ((h1|⟨_,_,h2⟩)|⟨h1,_⟩)
         · exact (hin h1).elim
         · omega
         · exact h1
       · intro hk
         refine .inr ⟨hk,?_⟩
         by_cases hkF:k<F.length
         · exact .inl hkF
         · exact .inr ⟨by omega,Int.le_refl _⟩
 · show (F.take (N b)++List.replicate (N b - F.length) b).length=N b
   rw [List.length_append,List.length_take,List.length_replicate];omega
 · show (F.take (N b)++List.replicate (N b - F.length) b).length≤H
   rw [List.length_append,List.length_take,List.length_replicate];omega
end Go.Sim.M
end
noncomputable section
namespace Go.Sim.M
open Go.RowKit Go.Sim.Srt
def pos (S:List Per) (i:Nat):Int:=match S[i]? with
 | some s=>s.1
 | none=>1099511627776
theorem xmB {S:List Per} {i:Nat} (h:i<S.length):pos S i=S[i].1:=by unfold pos;rw [List.getElem?_eq_getElem h]
theorem xgF {S:List Per} {i:Nat} (h:S.length≤i):pos S i=1099511627776:=by unfold pos;rw [List.getElem?_eq_none h]
end Go.Sim.M
end
noncomputable section
namespace Go.Sim.M
open Go.RowKit Go.Sim.Srt
structure VS (S:List Per):Prop where
 ne:0<S.length
 zero:pos S 0=0
 step:∀ i,i<S.length→pos S i<pos S (i+1)∧pos S (i+1)≤1099511627776
theorem VS.mono {S:List Per} (h:VS S):∀ d i,i+d≤S.length→pos S i≤pos S (i+d)
 | 0,i,_=>Int.le_refl _
 | d+1,i,hi=>by
  have a:=h.mono d i (by omega)
  have b:=h.step (i+d) (by omega)
  have e:i+(d+1)=i+d+1:=by omega
  rw [e];omega
theorem VS.le {S:List Per} (h:VS S) {i k:Nat} (hik:i≤k) (hk:k≤S.length):pos S i≤pos S k:=by
 have:=h.mono (k - i) i (by omega)
 rwa [show i+(k - i)=k by omega] at this
theorem VS.nonneg {S:List Per} (h:VS S) {i:Nat} (hi:i≤S.length):0≤pos S i:=by
 have:=h.le (Nat.zero_le i) hi
 rw [h.zero] at this;exact this
theorem VS.pv {S:List Per} (h:VS S) {k:Nat} (hk:k<S.length):pv (pos S k,pos S (k+1))=true:=by
 have a:=h.step k hk
 have b:=h.nonneg (i:=k) (by omega)
 exact xaW.2 ⟨b,a.1,a.2⟩
theorem VS.find {S:List Per} (h:VS S) {t:Int} (h0:0≤t) (h1:t<1099511627776):∃ k,k<S.length∧pos S k≤t∧t<pos S (k+1):=by
 have key:∀ d i,i+d=S.length→pos S i≤t→∃ k,k<S.length∧pos S k≤t∧t<pos S (k+1):=by
  intro d
  induction d with
  | zero=>intro i hi hp;rw [xgF (by omega)] at hp;omega
  | succ d ih =>
   intro i hi hp
   by_cases hq:t<pos S (i+1)
   · exact ⟨i,by omega,hp,hq⟩
   · exact ih (i+1) (by omega) (by omega)
 exact key S.length 0 (by omega) (by rw [h.zero];exact h0)
theorem VS.uniq {S:List Per} (h:VS S) {t:Int} {k k':Nat} (hk:k<S.length) (hk':k'<S.length) (a:pos S k≤t∧t<pos S (k+1)) (b:pos S k'≤t∧t<pos S (k'+1)):k=k':=by
 rcases Nat.lt_trichotomy k k' with hl|hl|hl
 · have:=h.le (i:=k+1) (k:=k') (by omega) (by omega);omega
 · exact hl
 · have:=h.le (i:=k'+1) (k:=k) (by omega) (by omega);omega
def cutOk (S:List Per) (p:Per) (k:Nat):Bool:=pv p&&(decide (p.1<pos S (k+1))&&decide (pos S k<p.2))
theorem xdC {S:List Per} {p:Per} {k:Nat}:cutOk S p k=true↔pv p=true∧p.1<pos S (k+1)∧pos S k<p.2:=by
 simp [cutOk]
def cutF (S:List Per) (p:Per) (k:Nat):Int:=max p.1 (pos S k)
def cutT (S:List Per) (p:Per) (k:Nat):Int:=min p.2 (pos S (k+1))
def lev (S:List Per) (k:Nat):Int:=match S[k]? with
 | some s=>s.2
 | none=>0
theorem xmy {S:List Per} {k:Nat} (h:k<S.length):lev S k=S[k].2:=by unfold lev;rw [List.getElem?_eq_getElem h]
def pkS (S:List Per) (p:Per) (k:Nat) (s:Int×Int):Int×Int:=if pos S k<p.2∧s.1<lev S k then (lev S k,pos S k) else s
def pk (S:List Per) (p:Per) (j:Nat):Nat→Int×Int
 | 0=>(lev S j,p.1)
 | d+1=>pkS S p (j+1+d) (pk S p j d)
structure PkI (S:List Per) (p:Per) (T:Int) (s:Int×Int):Prop where
 in1:p.1≤s.2
 in2:s.2<p.2
 val:∃ k,k<S.length∧pos S k≤s.2∧s.2<pos S (k+1)∧lev S k=s.1
 most:∀ k t,k<S.length→pos S k≤t→t<pos S (k+1)→p.1≤t→t<p.2→t<T→lev S k≤s.1∧(lev S k=s.1→s.2≤t)
theorem xlN {S:List Per} (h:VS S) {p:Per} (hp:pv p=true) {j:Nat} (hj:j<S.length) (h1:pos S j≤p.1) (h2:p.1<pos S (j+1)):∀ d,j+1+d≤S.length→PkI S p (pos S (j+1+d)) (pk S p j d)
 | 0,_=>by
  have b:=xaW.1 hp
  refine ⟨Int.le_refl _,b.2.1,⟨j,hj,h1,h2,rfl⟩,fun k t hk a1 a2 a3 a4 a5=>?_⟩
  have:=h.uniq hk hj ⟨a1,a2⟩ ⟨by omega,a5⟩
  subst this
  exact ⟨Int.le_refl _,fun _=>a3⟩
 | d+1,hd=>by
  have b:=xaW.1 hp
  have ih:=xlN h hp hj h1 h2 d (by omega)
  have hlt:j+1+d<S.length:=by omega
  have hst:=h.step _ hlt
  have hge:pos S (j+1)≤pos S (j+1+d):=h.le (by omega) (by omega)
  show PkI S p (pos S (j+1+d+1)) (pkS S p (j+1+d) (pk S p j d))
  unfold pkS
  by_cases hc:pos S (j+1+d)<p.2∧(pk S p j d).1<lev S (j+1+d)
  · rw [if_pos hc]
    refine ⟨by dsimp only;omega,hc.1,⟨_,hlt,Int.le_refl _,hst.1,rfl⟩,fun k t hk a1 a2 a3 a4 a5=>?_⟩
    dsimp only
    by_cases ht:t<pos S (j+1+d)
    · have:=(ih.most k t hk a1 a2 a3 a4 ht).1
      exact ⟨by omega,fun e=>by omega⟩
    · have:=h.uniq hk hlt ⟨a1,a2⟩ ⟨by omega,a5⟩
      subst this
      exact ⟨Int.le_refl _,fun _=>a1⟩
  · rw [if_neg hc]
    refine ⟨ih.in1,ih.in2,ih.val,fun k t hk a1 a2 a3 a4 a5=>?_⟩
    by_cases ht:t<pos S (j+1+d)
    · exact ih.most k t hk a1 a2 a3 a4 ht
    · have:=h.uniq hk hlt ⟨a1,a2⟩ ⟨by omega,a5⟩
      subst this
      have h3:¬ (pk S p j d).1<lev S (j+1+d):=fun e=>hc ⟨by omega,e⟩
      refine ⟨by omega,fun e=>?_⟩
      obtain ⟨k',c1,c2,c3,c4⟩:=ih.val
      have hlast:=ih.in2
      rcases Int.lt_or_le (pk S p j d).2 (pos S (j+1+d)) with h4|h4
      · omega
      · exfalso
        have:=pk_before h hp hj h1 h2 d (by omega)
        omega
where
 pk_before {S:List Per} (h:VS S) {p:Per} (hp:pv p=true) {j:Nat} (hj:j<S.length) (h1:pos S j≤p.1) (h2:p.1<pos S (j+1)):∀ d,j+1+d≤S.length→(pk S p j d).2<pos S (j+1+d)
  | 0,_=>h2
  | d+1,hd=>by
   have ih:=pk_before h hp hj h1 h2 d (by omega)
   have hst:=h.step (j+1+d) (by omega)
   show (pkS S p (j+1+d) (pk S p j d)).2<pos S (j+1+d+1)
   unfold pkS
   split
   · exact hst.1
   · omega
end Go.Sim.M
end
noncomputable section
set_option maxRecDepth 100000
namespace Go.Sim.M
open Go.RowKit Go.Sim.Srt
def isc (p q:Per):Bool:=pv p&&(pv q&&(decide (p.1<q.2)&&decide (q.1<p.2)))
theorem xmA (p q:Per):xae p.1 p.2 q.1 q.2=if isc p q=true then (max p.1 q.1,min p.2 q.2,true) else (0,0,false):=by
 have e:xaU p.1 p.2 q.1 q.2=isc p q:=by
  unfold xaU isc
  rw [xhH p,xhH q]
  cases pv p<;>cases pv q<;>cases decide (p.1<q.2)<;>rfl
 unfold xae
 rw [e]
 cases isc p q
 · rfl
 · have e1:(if q.1>p.1 then q.1 else p.1)=max p.1 q.1:=by split<;>omega
   have e2:(if q.2<p.2 then q.2 else p.2)=min p.2 q.2:=by split<;>omega
   rw [e1,e2];rfl
def pie (S:List Per) (k:Nat):Per:=(pos S k,pos S (k+1))
theorem xl2 {S:List Per} (h:VS S) {k:Nat} (hk:k<S.length) (p:Per):isc p (pie S k)=cutOk S p k:=by
 unfold isc cutOk pie
 rw [h.pv hk,Bool.true_and]
theorem xme {S:List Per} (h:VS S) {k:Nat} (hk:k<S.length) (p:Per):xae p.1 p.2 (pos S k) (pos S (k+1))=if cutOk S p k=true then (cutF S p k,cutT S p k,true) else (0,0,false):=by
 have:=xmA p (pie S k)
 rw [xl2 h hk] at this
 exact this
theorem xbM {S:List Per} {k:Nat} (hk:k<S.length):(((S.map encP).getD k .top).cells.getD 0 .top).toInt=pos S k:=by
 rw [xdn _ _ _ hk,cP0,xmB hk]
theorem xb4 {S:List Per} {k:Nat} (hk:k<S.length):(((S.map encP).getD k .top).cells.getD 1 .top).toInt=lev S k:=by
 rw [xdn _ _ _ hk,cP1,xmy hk]
theorem xlc {S:List Per} {k:Nat} (hk:k<S.length):(((S.map encP).getD k .top).cells.length==2&&hasShs [Sh.int .i64,Sh.int .i64] ((S.map encP).getD k .top).cells 0)=true:=by
 rw [xdn _ _ _ hk];rfl
theorem xbU {S:List Per} {k:Nat} (hk:k<S.length):hasSh1 (Sh.int .i64) (((S.map encP).getD k .top).cells.getD 0 .top)=true:=by
 rw [xdn _ _ _ hk];rfl
theorem xcE {S:List Per} {k:Nat} (hk:k<S.length):hasSh1 (Sh.int .i64) (((S.map encP).getD k .top).cells.getD 1 .top)=true:=by
 rw [xdn _ _ _ hk];rfl
def pkW (S:List Per) (p:Per):Nat→Bool×Int×Int
 | 0=>(false,0,0)
 | k+1=>if cutOk S p k=true then (if (pkW S p k).1=false∨(pkW S p k).2.1<lev S k then (true,lev S k,cutF S p k) else pkW S p k) else pkW S p k
theorem xlA (f t n:Int) (s:Bool×Int×Int):xa0 f t n s.1 s.2.1 s.2.2=if s.1=false∨s.2.1<n then (true,n,f) else s:=by
 obtain ⟨a,b,c⟩:=s
 unfold xa0
 cases a
 · rfl
 · by_cases h:b<n
   · simp [h,xaQ,xaS]
   · simp [h,xaQ,xaS]
theorem xjA {S:List Per} (h:VS S) (hl:S.length≤1048576) (p:Per):Iter (xac (S.map encP) (S.map encP) ((S.length:Nat):Int)) ((0:Int),false,(0:Int),(0:Int),p.1,p.2)=some (pkW S p S.length):=by
 refine xfW (fun k=>((k:Int),(pkW S p k).1,(pkW S p k).2.1,(pkW S p k).2.2,p.1,p.2)) S.length (pkW S p S.length) (fun k hk=>?_) ?_ S.length 0 (by omega)
 · have i1:(k:Int)<(S.length:Int):=by omega
   have hi:=xme h hk p
   have hs:pkW S p (k+1)=if cutOk S p k=true then xa0 (cutF S p k) (cutT S p k) (lev S k) (pkW S p k).1 (pkW S p k).2.1 (pkW S p k).2.2 else pkW S p k:=by
    rw [xlA];rfl
   by_cases hk1:k+1<S.length
   · have i2:((k+1:Nat):Int)<(S.length:Int):=by omega
     simp only [xac,xay,xa7,xa8,xa9,xba,xbb,xbc,xbd,List.length_map,xaQ,xaS,decide_true,decide_false,Bool.and_true,Bool.true_and,Bool.not_true,Bool.not_false,Int.toNat_natCast,Int.natCast_nonneg,Option.isSome_some,Option.getD_some,beq_self_eq_true,Nat.zero_add,Nat.sub_zero,hk,hk1,i1,i2,xbM hk,xbM hk1,xb4 hk,xlc hk,xbU hk1,wrapS (n:=k) (by omega),hi]
     cases hc:cutOk S p k<;>simp [hs,hc,xaQ,xaS]
   · have i2:¬ ((k+1:Nat):Int)<(S.length:Int):=by omega
     have e1:pos S (k+1)=1099511627776:=xgF (by omega)
     rw [e1] at hi
     simp only [xac,xay,xa7,xa8,xa9,xba,xbb,xbc,xbd,List.length_map,xaQ,xaS,decide_true,decide_false,Bool.and_true,Bool.true_and,Bool.not_true,Bool.not_false,Int.toNat_natCast,Int.natCast_nonneg,Option.isSome_some,Option.getD_some,beq_self_eq_true,Nat.zero_add,Nat.sub_zero,hk,i1,i2,xbM hk,xb4 hk,xlc hk,wrapS (n:=k) (by omega),hi]
     cases hc:cutOk S p k<;>simp [hs,hc,xaQ,xaS]
 · simp only [xac,xay,Int.lt_irrefl,decide_false,xaS]
theorem xmd {S:List Per} (h:VS S) (hl:S.length≤1048576) (p:Per):xah (S.map encP) p.1 p.2=some (pkW S p S.length).2:=by
 have e:xam (S.map encP) p.1 p.2 false 0 0=some (pkW S p S.length):=by
  unfold xam xbE
  simp only [xbx,xb0,xb1,List.length_map,xjA h hl p,Option.isSome_some,Option.getD_some,xaQ]
 unfold xah xbS
 simp only [e,Option.isSome_some,Option.getD_some,xaQ]
theorem xhD {S:List Per} (h:VS S) {p:Per} {j:Nat} (hj:j<S.length) (h1:pos S j≤p.1):∀ k,k≤j→pkW S p k=(false,0,0)
 | 0,_=>rfl
 | k+1,hk=>by
  have hle:=h.le (i:=k+1) (k:=j) hk (by omega)
  have:cutOk S p k=false:=by
   cases hc:cutOk S p k with
   | false=>rfl
   | true=>have:=xdC.1 hc;omega
  unfold pkW
  rw [this,if_neg (by simp),xhD h hj h1 k (by omega)]
theorem xk0 {S:List Per} (h:VS S) {p:Per} (hp:pv p=true) {j:Nat} (hj:j<S.length) (h1:pos S j≤p.1) (h2:p.1<pos S (j+1)):∀ d,j+1+d≤S.length→pkW S p (j+1+d)=(true,pk S p j d)
 | 0,_=>by
  have b:=xaW.1 hp
  have hc:cutOk S p j=true:=xdC.2 ⟨hp,h2,by omega⟩
  have e:cutF S p j=p.1:=by unfold cutF;omega
  show pkW S p (j+1)=_
  unfold pkW
  rw [if_pos hc,xhD h hj h1 j (Nat.le_refl _),if_pos (.inl rfl),e]
  rfl
 | d+1,hd=>by
  have ih:=xk0 h hp hj h1 h2 d (by omega)
  have hge:pos S (j+1)≤pos S (j+1+d):=h.le (by omega) (by omega)
  have hst:=h.step (j+1+d) (by omega)
  have e:cutF S p (j+1+d)=pos S (j+1+d):=by unfold cutF;omega
  show pkW S p (j+1+d+1)=(true,pkS S p (j+1+d) (pk S p j d))
  unfold pkW pkS
  rw [ih,e]
  by_cases hq:pos S (j+1+d)<p.2
  · have hc:cutOk S p (j+1+d)=true:=xdC.2 ⟨hp,by omega,hq⟩
    rw [if_pos hc]
    by_cases hm:(pk S p j d).1<lev S (j+1+d)
    · rw [if_pos (.inr hm),if_pos ⟨hq,hm⟩]
    · rw [if_neg (by simp;omega),if_neg (by omega)]
  · have hc:cutOk S p (j+1+d)=false:=by
     cases hc:cutOk S p (j+1+d) with
     | false=>rfl
     | true=>exact absurd (xdC.1 hc).2.2 hq
    rw [hc,if_neg (by simp),if_neg (by omega)]
theorem xiu {S:List Per} (h:VS S) (hl:S.length≤1048576) {t:Int} (h0:0≤t) (hF:t<1099511627776) {j:Nat} (hj:j<S.length) (h1:pos S j≤t) (h2:t<pos S (j+1)):xbA (S.map encP) t=some (lev S j):=by
 have key:Iter (xar (S.map encP) t) ((0:Int),(0:Int))=some (lev S j):=by
  refine xfW (fun k=>((if k=0 then 0 else lev S (min (k - 1) j):Int),(k:Int))) S.length (lev S j) (fun k hk=>?_) ?_ S.length 0 (by omega)
  · have i1:(k:Int)<(S.length:Int):=by omega
    simp only [xar,xbT,List.length_map,xaQ,xaS,decide_true,decide_false,Bool.and_true,Bool.true_and,Bool.not_true,Bool.not_false,Int.toNat_natCast,Int.natCast_nonneg,Option.isSome_some,Option.getD_some,beq_self_eq_true,Nat.zero_add,Nat.sub_zero,hk,i1,xbM hk,xb4 hk,xcE hk,xbU hk,wrapS (n:=k) (by omega),h0,hF,ge_iff_le]
    by_cases hp:pos S k≤t
    · have hkj:k≤j:=by
       rcases Nat.lt_or_ge j k with hlt|hge
       · have:=h.le (i:=j+1) (k:=k) hlt (by omega);omega
       · exact hge
      simp only [hp,decide_true,xaQ]
      rw [if_neg (by omega),show min (k+1 - 1) j=k by omega]
    · have hkj:j<k:=by
       rcases Nat.lt_or_ge j k with hlt|hge
       · exact hlt
       · have:=h.le (i:=k) (k:=j) hge (by omega);omega
      simp only [hp,decide_false,xaS]
      rw [if_neg (by omega),if_neg (by omega),show min (k+1 - 1) j=min (k - 1) j by omega]
  · simp only [xar,xbT,List.length_map,Int.lt_irrefl,decide_false,xaS]
    rw [if_neg (by have:=h.ne;omega),show min (S.length - 1) j=j by omega]
 unfold xbA xdc
 simp only [key,Option.isSome_some,Option.getD_some,xaQ]
theorem xfL (S:List Per) (hl:S.length≤1048576):∀ d k,0<k→k+d=S.length→Iter (xaa (S.map encP)) (k:Int)=some (if ((List.range d).all fun i=>decide (pos S (k+i - 1)<pos S (k+i))&&(decide (pos S (k+i)<1099511627776)&&!(lev S (k+i)==lev S (k+i - 1))))=true then (false,false,()) else (true,false,()))
 | 0,k,h0,hd=>by
  have i1:¬ (k:Int)<(S.length:Int):=by omega
  refine xdp ?_
  simp only [xaa,xaB,List.length_map,i1,decide_false,xaS]
  rfl
 | d+1,k,h0,hd=>by
  have hk:k<S.length:=by omega
  have hk1:k - 1<S.length:=by omega
  have i1:(k:Int)<(S.length:Int):=by omega
  have i2:((k - 1:Nat):Int)<(S.length:Int):=by omega
  have ih:=xfL S hl d (k+1) (by omega) (by omega)
  have ew:IntKind.i64.wrap ((k:Int) - 1)=((k - 1:Nat):Int):=by rw [xga (by omega) (by omega)];omega
  have er:((List.range (d+1)).all fun i=>decide (pos S (k+i - 1)<pos S (k+i))&&(decide (pos S (k+i)<1099511627776)&&!(lev S (k+i)==lev S (k+i - 1)))) =
    ((decide (pos S (k - 1)<pos S k)&&(decide (pos S k<1099511627776)&&!(lev S k==lev S (k - 1))))&&(List.range d).all fun i=>decide (pos S (k+1+i - 1)<pos S (k+1+i))&&(decide (pos S (k+1+i)<1099511627776)&&!(lev S (k+1+i)==lev S (k+1+i - 1)))):=by
   rw [List.range_succ_eq_map,List.all_cons,List.all_map]
   congr 1
   congr 1
   funext i
   simp only [Function.comp]
   rw [show k+(i+1)=k+1+i by omega]
  rw [er]
  by_cases c1:pos S (k - 1)<pos S k
  · by_cases c2:pos S k<1099511627776
    · cases c3:(lev S k==lev S (k - 1)) with
      | false =>
       rw [xht (s':=((k+1:Nat):Int)) ?_,ih]
       · simp [c1,c2]
       · have n1:¬ pos S k≤pos S (k - 1):=by omega
         have n2:¬ pos S k≥1099511627776:=by omega
         simp only [xaa,xaB,xax,xaF,List.length_map,xaQ,xaS,decide_true,decide_false,Bool.and_true,Bool.true_and,Bool.not_true,Bool.not_false,Int.toNat_natCast,Int.natCast_nonneg,Option.isSome_some,Option.getD_some,beq_self_eq_true,Nat.zero_add,Nat.sub_zero,hk,hk1,i1,i2,ew,xbM hk,xbM hk1,xb4 hk,xb4 hk1,xcE hk,xbU hk,xcE hk1,xbU hk1,wrapS (n:=k) (by omega),n1,n2,c3]
      | true =>
       have n1:¬ pos S k≤pos S (k - 1):=by omega
       have n2:¬ pos S k≥1099511627776:=by omega
       refine xdp ?_
       simp only [xaa,xaB,xax,xaF,List.length_map,xaQ,xaS,decide_true,decide_false,Bool.and_true,Bool.true_and,Bool.not_true,Bool.not_false,Int.toNat_natCast,Int.natCast_nonneg,Option.isSome_some,Option.getD_some,beq_self_eq_true,Nat.zero_add,Nat.sub_zero,hk,hk1,i1,i2,ew,xbM hk,xbM hk1,xb4 hk,xb4 hk1,xcE hk,xbU hk,xcE hk1,xbU hk1,wrapS (n:=k) (by omega),n1,n2,c3]
       simp [c1,c2]
    · have n1:¬ pos S k≤pos S (k - 1):=by omega
      have n2:pos S k≥1099511627776:=by omega
      refine xdp ?_
      simp only [xaa,xaB,xax,xaF,List.length_map,xaQ,xaS,decide_true,decide_false,Bool.and_true,Bool.true_and,Bool.not_true,Bool.not_false,Int.toNat_natCast,Int.natCast_nonneg,Option.isSome_some,Option.getD_some,beq_self_eq_true,Nat.zero_add,Nat.sub_zero,hk,hk1,i1,i2,ew,xbM hk,xbM hk1,xb4 hk,xb4 hk1,xcE hk,xbU hk,xcE hk1,xbU hk1,wrapS (n:=k) (by omega),n1,n2]
      simp [c1,c2]
  · have n1:pos S k≤pos S (k - 1):=by omega
    refine xdp ?_
    simp only [xaa,xaB,xax,xaF,List.length_map,xaQ,xaS,decide_true,decide_false,Bool.and_true,Bool.true_and,Bool.not_true,Bool.not_false,Int.toNat_natCast,Int.natCast_nonneg,Option.isSome_some,Option.getD_some,beq_self_eq_true,Nat.zero_add,Nat.sub_zero,hk,hk1,i1,i2,ew,xbM hk,xbM hk1,xb4 hk,xb4 hk1,xcE hk,xbU hk,xcE hk1,xbU hk1,wrapS (n:=k) (by omega),n1]
    simp [c1]
theorem xk8 (S:List Per) (hl:S.length≤1048576):∃ b,xbr (S.map encP)=some b∧(b=true→VS S):=by
 unfold xbr xcn
 rcases Nat.eq_zero_or_pos S.length with h0|h0
 · refine ⟨false,?_,fun h=>by simp at h⟩
   simp [h0,xaQ]
 · have i0:((S.length:Int)==0)=false:=by rw [beq_eq_false_iff_ne];omega
   have i1:(0:Int)<(S.length:Int):=by omega
   have hp0:=xbM (S:=S) (k:=0) h0
   by_cases hz:pos S 0=0
   · have hlp:=xfL S hl (S.length - 1) 1 (by omega) (by omega)
     have hlp:Iter (xaa (S.map encP)) (1:Int)=_:=hlp
     have hz':(pos S 0 != 0)=false:=by simp [hz]
     simp only [List.length_map,i0,i1,h0,hp0,hz',xbU h0,decide_true,Bool.and_true,xaQ,xaS,hlp,Option.isSome_some,Option.getD_some]
     by_cases ha:((List.range (S.length - 1)).all fun i=>decide (pos S (1+i - 1)<pos S (1+i))&&(decide (pos S (1+i)<1099511627776)&&!(lev S (1+i)==lev S (1+i - 1))))=true
     · rw [if_pos ha]
       refine ⟨true,rfl,fun _=>⟨h0,hz,fun i hi=>?_⟩⟩
       rw [List.all_eq_true] at ha
       have hub:∀ i,i<S.length→pos S i<1099511627776:=fun i hi=>by
        rcases Nat.eq_zero_or_pos i with hi0|hpos
        · rw [hi0,hz];decide
        · have:=ha (i - 1) (List.mem_range.2 (by omega))
          simp only [Bool.and_eq_true,decide_eq_true_eq] at this
          have:=this.2.1
          rwa [show 1+(i - 1)=i by omega] at this
       by_cases hi1:i+1<S.length
       · have:=ha i (List.mem_range.2 (by omega))
         simp only [Bool.and_eq_true,decide_eq_true_eq] at this
         have h3:=this.1
         rw [show 1+i - 1=i by omega,show 1+i=i+1 by omega] at h3
         have:=hub (i+1) hi1
         exact ⟨h3,by omega⟩
       · rw [xgF (i:=i+1) (by omega)]
         exact ⟨hub i hi,Int.le_refl _⟩
     · rw [if_neg ha]
       exact ⟨false,rfl,fun h=>by simp at h⟩
   · refine ⟨false,?_,fun h=>by simp at h⟩
     have hz':(pos S 0 != 0)=true:=by simp [hz]
     simp only [List.length_map,i0,i1,h0,hp0,hz',xbU h0,decide_true,Bool.and_true,xaQ,xaS]
end Go.Sim.M
end
noncomputable section
set_option maxRecDepth 100000
namespace Go.Sim.M
open Go.RowKit Go.Sim.Srt
theorem xkU (S:List Per) (p:Per) (t:Int):xaq (S.map encP) p.1 p.2 t=some true:=by
 unfold xaq xbg
 by_cases h1:(S.length:Int)>24
 · simp [h1,xaQ]
 obtain ⟨b,v1,v2⟩:=xk8 S (by omega)
 rw [xhN p]
 cases b with
 | false=>simp [h1,v1,xaQ,xaS]
 | true =>
  have hv:=v2 rfl
  cases hp:pv p with
  | false=>simp [h1,v1,xaQ,xaS]
  | true =>
   have b:=xaW.1 hp
   obtain ⟨j,hj,j1,j2⟩:=hv.find (t:=p.1) b.1 (by omega)
   have e3:=xk0 hv hp hj j1 j2 (S.length - (j+1)) (by omega)
   have e4:=xlN hv hp hj j1 j2 (S.length - (j+1)) (by omega)
   rw [show j+1+(S.length - (j+1))=S.length by omega] at e3 e4
   rw [xgF (Nat.le_refl _)] at e4
   have d1:=xmd hv (by omega) p
   rw [e3] at d1
   generalize pk S p j (S.length - (j+1))=s at d1 e4
   obtain ⟨n,at'⟩:=s
   obtain ⟨k,k1,k2,k3,k4⟩:=e4.val
   have hin:=e4.in1
   have hin2:=e4.in2
   dsimp only at k2 k3 k4 hin hin2
   have d2:=xiu hv (by omega) (t:=at') (by omega) (by omega) k1 k2 k3
   have d3:xaO p.1 p.2 at'=true:=by rw [xiv];exact xa5.2 ⟨hp,hin,hin2⟩
   have d4:=xiv p t
   cases hpt:hasP p t with
   | false =>
    rw [hpt] at d4
    simp [h1,v1,d1,d2,d3,d4,k4,xaQ,xaS]
   | true =>
    rw [hpt] at d4
    have g:=xa5.1 hpt
    obtain ⟨k',q1,q2,q3⟩:=hv.find (t:=t) (by omega) (by omega)
    have d5:=xiu hv (by omega) (t:=t) (by omega) (by omega) q1 q2 q3
    obtain ⟨m1,m2⟩:=e4.most k' t q1 q2 q3 g.2.1 g.2.2 (by omega)
    dsimp only at m1 m2
    have n1:¬ lev S k'>n:=by omega
    by_cases he:lev S k'=n
    · have n2:¬ t<at':=by have:=m2 he;omega
      simp [h1,v1,d1,d2,d3,d4,d5,k4,he,n2,xaQ,xaS]
    · have he':(lev S k'==n)=false:=by simp [he]
      simp [h1,v1,d1,d2,d3,d4,d5,k4,n1,he',xaQ,xaS]
end Go.Sim.M
end
noncomputable section
namespace Go.Sim
theorem M.card_peaks (s:List M.Per) (p:M.Per) (t:Int) (w0:s.length≤maxLen∧∀ y,y∈s→M.PerWf y) (w1:M.PerWf p) (w2:(Lit.int .i64 t).wf=true):M.xaq (s.map M.encP) p.1 p.2 t=some true:=M.xkU s p t
end Go.Sim
end
noncomputable section
set_option maxRecDepth 10000
namespace Go.Proofs.YtoemghmemdnelaaGreatDoor.aggregatePeaks
open Go.ChangeShapes Go.WideShapes Go.ChangeAt Go.RowKit Go.Sim
theorem contract (H:Type) (enc:TypeId×Value→H) (W:World) (base:Nat) (args:Array Value) (ds gs:List (DataW H)) (before:List MemPlace)
  (hval:∀ (j:Nat) t v,Tryz.f9.params[j]?=some t→args[j]?=some v→Value.okWide Tryz.prog W .any base t v)
  (hW:DataW.Whole enc Tryz.prog Tryz.f9.params.toList Rows.aggregatePeaksSpec.vars false W args.toList ds gs before) (hL:laidMetH Tryz.prog Rows.aggregatePeaksRow.laid W) (hsh:W.ShapedOpen Tryz.prog) :
  Calls Tryz.prog 9 args W fun e W'=>∃ v,e=.returned v∧Rows.aggregatePeaksSpec.post enc Tryz.prog Tryz.f9 false true false false W args v W':=by
 have hW':=hW
 obtain ⟨p,q,hA0,hV,rfl,hfz,hnd⟩:=hW
 have hA:DataW.TrodAll enc Tryz.prog W 0 (fun _=>true) true Tryz.f9.params.toList args.toList ds p:=hA0
 have hAk:=hA
 rw [Tryz.params9] at hA hval
 obtain ⟨v0,vs0,d0,ds0,p0,q0,hargs,rfl,rfl,h0,r0⟩:=trodAll_cons hA
 obtain ⟨v1,vs1,d1,ds1,p1,q1,rfl,rfl,rfl,h1,r1⟩:=trodAll_cons r0
 obtain ⟨v2,vs2,d2,ds2,p2,q2,rfl,rfl,rfl,h2,r2⟩:=trodAll_cons r1
 obtain ⟨rfl,rfl,rfl⟩:=trodAll_nil r2
 obtain rfl:args=#[v0,v1,v2]:=by cases args;simp_all
 obtain ⟨rfl,rfl⟩:=trodVars_none hV
 obtain ⟨a0,rr0,b0,w0⟩:=xjN (hval 0 33 v0 rfl rfl) h0
 obtain ⟨a1,rr1,b1,w1⟩:=xlz (hval 1 35 v1 rfl rfl) h1
 obtain ⟨a2,rr2,b2,w2⟩:=xly (hval 2 3 v2 rfl rfl) h2
 clear hA0
 have hI:ITryz W:=xmv rfl (by kernel_rfl) hL hsh
 have hpl:=M.card_peaks a0 a1 a2 w0 w1 w2
 have hg:Sim.Good Tryz.prog ITryz 9 [.list 2 (a0.map M.encP),(.agg [.int .i64 a1.1,.int .i64 a1.2]),.int .i64 a2] (.bool true):=M.xdS _ _ (by
  show some (_,AV.bool _)=_
  rw [hpl];rfl)
 have hrc:RC W (fun _=>False) noBox [v0,v1,v2] [.list 2 (a0.map M.encP),(.agg [.int .i64 a1.1,.int .i64 a1.2]),.int .i64 a2]:=by
  refine ⟨rfl,fun i hi=>?_⟩
  match i,hi with
  | 0,_=>exact rr0
  | 1,_=>exact rr1
  | 2,_=>exact rr2
 refine (hg.2 W (fun _=>False) _ hI (fun _ h=>h.elim) hrc).mono fun e W' ⟨v,he,hb,hr⟩=>?_
 subst he
 obtain rfl:=hr.bool_inv
 exact ⟨_,rfl,xk1 rfl hW' ⟨rfl,rfl,rfl⟩ rfl Tryz.underlying4 (by simpa using xet laidTryz hb (by kernel_rfl) hAk) hb⟩
noncomputable def wit:Array Value:=#[.slice none 0 0,.agg #[.int .i64 0,.int .i64 0],.int .i64 0]
theorem laid_met (os:Os):laidMet Tryz.prog Rows.aggregatePeaksRow.laid ((laidWorld Tryz.prog Rows.aggregatePeaksRow.laid os).forCall (fun _ _=>0) ⟨#[],wit,[]⟩).memory :=
 laidMet_of_run3 8 (by kernel_rfl) (by kernel_rfl) (by kernel_rfl)
theorem reads (os:Os) {H:Type} (enc:TypeId×Value→H):∃ places,DataW.whole enc Tryz.prog ((laidWorld Tryz.prog Rows.aggregatePeaksRow.laid os).forCall (fun _ _=>0) ⟨#[],wit,[]⟩).memory Tryz.f9.params.toList Rows.aggregatePeaksSpec.vars false wit.toList 8=some ([.nil,.agg [.lit (.int .i64 0),.lit (.int .i64 0)],.lit (.int .i64 0)],[],places) :=
 ⟨[],by kernel_rfl⟩
set_option maxRecDepth 100000 in
theorem lifted (os:Os) (started:os.Started) (H:Type) (enc:TypeId×Value→H) (F:Stop.Interp) :
  ReturnsInHanded {} Tryz.checked os 9 .any ((OpenSpec.ofChange Rows.aggregatePeaksSpec).preRow enc Tryz.prog Tryz.f9 Rows.aggregatePeaksRow.domain false Rows.aggregatePeaksRow.laid) (((OpenSpec.ofChange Rows.aggregatePeaksSpec).at F).post enc Tryz.prog Tryz.f9 false true false false):=by
 obtain ⟨places,hx⟩:=reads os enc
 refine returnsInHanded_of_row (C:=Tryz.checked) (s:=OpenSpec.ofChange Rows.aggregatePeaksSpec) ownTryz started (by kernel_rfl) Tryz.func9
  (witness_row_at (enc:=enc) (C:=Tryz.checked) false (laidWorld Tryz.prog Rows.aggregatePeaksRow.laid os) wit rfl (by kernel_rfl) (by kernel_rfl) (by kernel_rfl)
   (OpenSpec.preRow_of_cond 8 hx (by kernel_rfl) (fun k hk=>by cases hk) (by kernel_rfl) (laid_met os))) ?_
 intro W base args ds gs before hval hW _ _ _ hL hsh _
 exact contract H enc W base args ds gs before hval hW hL hsh
theorem said:Rows.AggregatePeaksSaid :=
 OpenClaim.holds_of_cond 9 Tryz.f9 rfl rfl rfl rfl rfl rfl rfl ⟨rfl,rfl,rfl,rfl,rfl⟩ rfl rfl rfl rfl rfl (by kernel_rfl) Tryz.func9 (by kernel_rfl)
  (of_decide_eq_true (by kernel_rfl)) (by unfold Func.isWrapper;first|(rw [if_pos (by decide +kernel)];kernel_rfl)|(rw [if_neg (by decide +kernel)];exact ⟨rfl,rfl⟩))
  (fun os started H enc _ F=>by rw [OpenClaim.pre_eq_preRow];exact lifted os started H enc F)
theorem plain (f:FuncId) (fn:Func) (hf:Tryz.pinned.checked.prog.funcNamed "bitemporal/bitemporallaw26.AggregatePeaks" = some f) (hfn:Tryz.pinned.checked.prog.funcs[f]?=some fn) :
  false=Tryz.pinned.checked.prog.looks []∧∀ (j:Nat) t,fn.params[j]?=some t→Tryz.pinned.checked.prog.wantsStandIn t=false:=by
 obtain rfl:f=9:=Option.some.inj ((show Tryz.prog.funcNamed "bitemporal/bitemporallaw26.AggregatePeaks" = some 9 by kernel_rfl).symm.trans hf) |>.symm
 obtain rfl:fn=Tryz.f9:=(Option.some.inj (Tryz.func9.symm.trans hfn)).symm
 refine ⟨by kernel_rfl,fun j t ht=>?_⟩
 rw [Tryz.params9] at ht
 have hm:=Array.mem_of_getElem? ht
 have:([33,35,3]:List Nat).all (fun t=>!(Tryz.prog.wantsStandIn t))=true:=by kernel_rfl
 have:=List.all_eq_true.1 this t (by simpa using hm)
 show Tryz.prog.wantsStandIn t=false
 simpa using this
theorem card:Rows.AggregatePeaksCardSaid :=
 Claim7.holds_tied_plain_at .later [] _ _ _ _ said (fun _ h=>by cases h) (by kernel_rfl) (fun _ h=>by cases h) aggregatePeaks_row_tie rfl ⟨rfl,rfl⟩ (by kernel_rfl) rfl plain (by kernel_rfl)
end Go.Proofs.YtoemghmemdnelaaGreatDoor.aggregatePeaks
end
