/- Part 16 of the proof of the law. -/
import Derived.Test.YtoemghmemdnelaaGreatDoorGT15
import Derived.Test.YtoemghmemdnelaaGreatDoorCards
import Derived.Test.YtoemghmemdnelaaGreatDoorTie
import Derived.ChangeMaps5
import Derived.Deep.DeepHandedRow
import Derived.Stop.LaidErr
import Derived.Deep.DeepLaidRun
set_option linter.unusedVariables false
set_option linter.unusedSimpArgs false
noncomputable section
set_option maxRecDepth 10000
namespace Go.Sim
open Go.RowKit Go.Proofs Go.ChangeShapes Go.WideShapes Go.ChangeAt
theorem xju {P:Program} {w:World} (h:w.ShapedOpen P) (hg:P.globals.size<P.low):P.low≤w.heap.size:=by
 obtain ⟨o,o₀,h1,_,_⟩:=h.2 (P.low - 1) (by omega) (by unfold Program.low at hg ⊢;omega)
 rcases Nat.lt_or_ge (P.low - 1) w.heap.size with h'|h'
 · omega
 · rw [Array.getElem?_eq_none h'] at h1;simp at h1
def cellsOfData:DataW Unit→List Value
 | .lit (.int k n)=>[.int k n]
 | .agg l=>l.flatMap fun d=>match d with
  | .lit (.int k n)=>[.int k n]
  | .agg l'=>l'.flatMap fun d'=>match d' with
   | .lit (.int k n)=>[.int k n]
   | _=>[]
  | _=>[]
 | _=>[]
noncomputable def laidHeap (P:Program):List (String×DataW Unit)→Array Obj→Array Obj
 | [],h=>h
 | x::r,h=>laidHeap P r (match P.globalNamed x.1 with
  | some g=>h.modify g fun o=>match o with
   | .cells _ t frozen=>.cells (cellsOfData x.2).toArray t frozen
   | o=>o
  | none=>h)
noncomputable def laidWorld (P:Program) (laid:List (String×DataW Unit)) (os:Os):World :=
 { World.holding P os ⟨#[],#[],[]⟩ with heap:=laidHeap P laid (World.holding P os ⟨#[],#[],[]⟩).heap }
theorem xm1 {H:Type} {enc:TypeId×Value→H} {P:Program} {f:Func} {s:ChangeSpec} {W W':World} {args:Array Value} {ds:List (DataW H)} {before:List MemPlace} {tb:TypeId} (hs:s.vars=[])
  (hW:DataW.Whole enc P f.params.toList s.vars false W args.toList ds [] before) (hfn:(s.fn H ds).results=[.lit (.bool true)]∧(s.fn H ds).args=ds∧(s.fn H ds).vars=[]) (hrt:f.resultTypes=#[tb]) (htb:P.underlying tb=some .bool)
  (hargs:DataW.TrodAll enc P W' 0 (fun b=>decide (b<W.heap.size)) true f.params.toList args.toList ds before) (hb:Below W.heap.size W W'):s.post enc P f false true false false W args (.bool true) W':=by
 refine ⟨ds,[],before,[],before,[],hW,?_,?_,?_,hb.frame _,fun h=>by simp at h⟩
 · simp only [List.append_nil,hfn.1,hrt]
   exact trodAll_cons_mk (shut_bool htb _) trodAll_mk0
 · simpa [hfn.2.1] using hargs
 · simp only [List.append_nil,hfn.2.2,hs];rfl
theorem xfQ {H:Type} {enc:TypeId×Value→H} {P:Program} {W W':World} (hl:laidOutB P=true) (hb:Below W.heap.size W W'):∀ {ts:List TypeId} {vs:List Value} {ds:List (DataW H)} {ps:List MemPlace},(ts.all fun t=>P.readableRec t&&decide (t<P.types.size))=true →
  DataW.TrodAll enc P W 0 (fun _=>true) true ts vs ds ps→DataW.TrodAll enc P W' 0 (fun b=>decide (b<W.heap.size)) true ts vs ds ps
 | [],vs,ds,ps,_,h=>by
  obtain ⟨rfl,rfl,rfl⟩:=trodAll_nil h
  exact trodAll_mk0
 | t::ts,vs,ds,ps,ht,h=>by
  have hlt:=h.lt
  obtain ⟨v,vs',d,ds',p,q,rfl,rfl,rfl,hd,hr⟩:=trodAll_cons h
  simp only [List.all_cons,Bool.and_eq_true,decide_eq_true_eq] at ht
  exact trodAll_cons_mk (Below.trod hl ht.1.1 ht.1.2 hd hb fun x hx=>hlt x (by simp [hx])) (xfQ hl hb ht.2 hr)
section
variable {H : Type} {enc : TypeId × Value → H} {P : Program} {w : World} {base b n : Nat} {sp : Nat → Bool} {held : Bool} {v : Value} {d : DataW H} {ps : List MemPlace} {t : TypeId}
theorem xm0 {T:Ty} (hf:flat P n t=some [T]) (hv:v.cells=#[v]) (hd:DataW.Trod enc P w b sp held t v d ps):∃ a,Rel w (fun _=>False) noBox v a∧OfTy T a∧∀ μ:DataW H→Nat,Meas μ→a.wt≤μ d:=by
 obtain ⟨fuel,hf'⟩:=hd
 rw [hv] at hf'
 obtain ⟨ra,ha,hw⟩:=xeM n t [T] hf fuel _ _ hf'
 cases ha with
 | cons h ht r=>cases r with
  | nil=>exact ⟨_,h,ht,fun μ hμ=>by simpa [AV.wts] using hw μ hμ⟩
theorem xoj {e:TypeId} {es:List Ty} (ht:P.underlying t=some (.slice e)) (hf:flat P n t=some [.slice es]) (hval:Value.okWide P w .any base t v) (hd:DataW.Trod enc P w b sp held t v d ps):∃ a,Rel w (fun _=>False) noBox v a∧OfTy (.slice es) a∧∀ μ:DataW H→Nat,Meas μ→a.wt≤μ d:=by
 obtain ⟨x,len,cap,rfl⟩:=okWide_slice ht hval
 exact xm0 hf rfl hd
theorem xjp {α:Type} {e:α→AV} {wf:α→Prop} {es:List Ty} (hv:∀ x:AV,x.cells.length=es.length→x=elemOf x.cells→(∀ j,j<es.length→OfTy (es.getD j .bool) (x.cells.getD j .top))→∃ a,x=e a∧wf a) {x:AV} (h:OfTy (.slice es) x) :
  ∃ l:List α,x=.list es.length (l.map e)∧l.length≤maxLen∧∀ a,a∈l→wf a:=by
 cases h with
 | slice _ xs hn hl hx =>
  have:∀ xs:List AV,(∀ x,x∈xs→∃ a,x=e a∧wf a)→∃ l:List α,xs=l.map e∧∀ a,a∈l→wf a:=by
   intro xs
   induction xs with
   | nil=>exact fun _=>⟨[],rfl,fun a h=>by simp at h⟩
   | cons x xs ih =>
    intro h
    obtain ⟨a,rfl,ha⟩:=h x (by simp)
    obtain ⟨l,rfl,hl⟩:=ih fun y hy=>h y (by simp [hy])
    exact ⟨a::l,rfl,fun b hb=>(List.mem_cons.1 hb).elim (fun he=>he▸ha) (fun hb=>hl b hb)⟩
  obtain ⟨l,rfl,hw⟩:=this xs fun x hx'=>hv x (hl x hx').1 (hl x hx').2 (fun j hj=>hx x j hx' hj)
  exact ⟨l,rfl,by simpa using hn,hw⟩
end
end Go.Sim
namespace Go.Sim
open Go.RowKit Go.Proofs Go.ChangeShapes Go.WideShapes Go.ChangeAt Go.Proofs.YtoemghmemdnelaaGreatDoor
theorem laidTryz:laidOutB Tryz.prog=true:=by kernel_rfl
theorem ownTryz:ownKnob Tryz.prog.godebug=none:=by kernel_rfl
theorem lowTryz:Tryz.prog.globals.size<Tryz.prog.low:=of_decide_eq_true (by kernel_rfl)
noncomputable def pow10Global:Nat:=(Tryz.prog.globalNamed "internal/strconv.uint64pow10").getD 0
theorem xm2:Rows.laid_internal_strconv_uint64pow10=(Lib.tabData .u64 Lib.pow10Tab:DataW Unit):=by kernel_rfl
theorem xoK {W:World} {r:List (String×DataW Unit)} {a b:String×DataW Unit} (hl:r=[a,b,("internal/strconv.uint64pow10",Rows.laid_internal_strconv_uint64pow10)]) (hp:(r.all fun x=>x.2.handleName?.isNone)=true) (hL:laidMetH Tryz.prog r W) (hsh:W.ShapedOpen Tryz.prog):ITryz W:=by
 rw [MakeChecks.laidMetH_plain _ _ _ hp] at hL
 subst hl
 refine ⟨hsh,xju hsh lowTryz,?_⟩
 have h:=hL.tail.tail
 rw [xm2] at h
 exact Lib.tabIs_of_head (g:=pow10Global) (t:=(Tryz.prog.globals[pow10Global]?).map (·.type) |>.getD 0) (e:=194) (n:=20) (by kernel_rfl) (by kernel_rfl) (by kernel_rfl) (by kernel_rfl) (by kernel_rfl) (by kernel_rfl) h
def tyV:List Ty:=[.int .i64,.int .i64,.str]
def tyF:List Ty:=[.slice tyV,.int .i64,.int .i64]
theorem xly:flat Tryz.prog 9 23=some [.slice tyF]:=by kernel_rfl
def I64 (n:Int):Prop:=(Lit.int .i64 n).wf=true
def M.Fc.wf (x:M.Fc):Prop:=M.Row.wf x.r∧I64 x.p.1∧I64 x.p.2
theorem xnQ (x:AV) (hl:x.cells.length=tyV.length) (he:x=elemOf x.cells) (hx:∀ j,j<tyV.length→OfTy (tyV.getD j .bool) (x.cells.getD j .top)):∃ a,x=M.encV a∧M.Val.wf a:=by
 generalize x.cells=cs at *
 match cs,hl with
 | [c0,c1,c2],_ =>
  have h0:=hx 0 (by decide)
  have h1:=hx 1 (by decide)
  have h2:=hx 2 (by decide)
  change OfTy (.int .i64) c0 at h0
  change OfTy (.int .i64) c1 at h1
  change OfTy .str c2 at h2
  cases h0 with
  | int _ k hk=>cases h1 with
   | int _ i hi=>cases h2 with
    | str t ht=>exact ⟨⟨k,i,t⟩,he,hk,hi,ht⟩
theorem xnP {x:AV} (h:OfTy (.slice tyV) x):∃ l:M.Row,x=M.encR l∧M.Row.wf l:=by
 obtain ⟨l,rfl,h1,h2⟩:=xjp xnQ h
 exact ⟨l,rfl,h1,h2⟩
theorem xnO (x:AV) (hl:x.cells.length=tyF.length) (he:x=elemOf x.cells) (hx:∀ j,j<tyF.length→OfTy (tyF.getD j .bool) (x.cells.getD j .top)):∃ a,x=M.encF a∧M.Fc.wf a:=by
 generalize x.cells=cs at *
 match cs,hl with
 | [c0,c1,c2],_ =>
  have h0:=hx 0 (by decide)
  have h1:=hx 1 (by decide)
  have h2:=hx 2 (by decide)
  change OfTy (.slice tyV) c0 at h0
  change OfTy (.int .i64) c1 at h1
  change OfTy (.int .i64) c2 at h2
  obtain ⟨l,rfl,hw⟩:=xnP h0
  cases h1 with
  | int _ k hk=>cases h2 with
   | int _ i hi=>exact ⟨⟨l,(k,i)⟩,he,hw,hk,hi⟩
theorem xnr:flat Tryz.prog 9 35=some [.int .i64,.int .i64]:=by kernel_rfl
def M.PerWf (p:M.Per):Prop:=(Lit.int .i64 p.1).wf=true∧(Lit.int .i64 p.2).wf=true
section
variable {H : Type} {enc : TypeId × Value → H} {w : World} {base b : Nat} {sp : Nat → Bool} {held : Bool} {v : Value} {d : DataW H} {ps : List MemPlace}
theorem xmx {P:Program} {t:TypeId} {n:Nat} {Ts:List Ty} {fs:Array Field} (ht:P.underlying t=some (.struct fs)) (hf:flat P n t=some Ts) (hval:Value.okWide P w .any base t v) (hd:DataW.Trod enc P w b sp held t v d ps) :
  ∃ cs:List AV,Rel w (fun _=>False) noBox v (.agg cs)∧cs.length=Ts.length∧(∀ j,j<Ts.length→OfTy (Ts.getD j .bool) (cs.getD j .top))∧∀ μ:DataW H→Nat,Meas μ→AV.wts cs≤μ d:=by
 obtain ⟨vs,rfl,_⟩:=okWide_struct ht hval
 obtain ⟨fuel,hf'⟩:=hd
 obtain ⟨xs,ha,hw⟩:=xeM n t Ts hf fuel _ _ hf'
 obtain ⟨l1,l2⟩:=ha.len
 have l1':vs.size=Ts.length:=by simpa [Value.cells] using l1
 refine ⟨xs,.agg vs xs (by omega) fun i hi=>?_,l2,fun j hj=>(ha.get j hj).2,fun μ hμ=>hw μ hμ⟩
 have:=(ha.get i (by omega)).1
 simpa [Value.cells,List.getD_eq_getElem?_getD,Array.getD_eq_getD_getElem?] using this
theorem xlM (hval:Value.okWide Tryz.prog w .any base 23 v) (hd:DataW.Trod enc Tryz.prog w b sp held 23 v d ps):∃ l:List M.Fc,Rel w (fun _=>False) noBox v (.list 3 (l.map M.encF))∧(∀ μ:DataW H→Nat,Meas μ→(AV.list 3 (l.map M.encF)).wt≤μ d)∧(l.length≤maxLen∧∀ y,y∈l→y.wf):=by
 obtain ⟨a,h,hT,hB⟩:=xoj Tryz.underlying23 xly hval hd
 obtain ⟨l,rfl,hw⟩:=xjp (es:=tyF) xnO hT
 exact ⟨l,h,hB,hw⟩
theorem xnA (hval:Value.okWide Tryz.prog w .any base 35 v) (hd:DataW.Trod enc Tryz.prog w b sp held 35 v d ps):∃ p:M.Per,Rel w (fun _=>False) noBox v (.agg [.int .i64 p.1,.int .i64 p.2])∧(∀ μ:DataW H→Nat,Meas μ→(AV.agg [.int .i64 p.1,.int .i64 p.2]).wt≤μ d)∧M.PerWf p:=by
 obtain ⟨cs,h,hl,hx,hB⟩:=xmx Tryz.underlying35 xnr hval hd
 match cs,hl with
 | [c0,c1],_ =>
  have h0:=hx 0 (by decide)
  have h1:=hx 1 (by decide)
  change OfTy (.int .i64) c0 at h0
  change OfTy (.int .i64) c1 at h1
  cases h0 with
  | int _ n0 w0=>cases h1 with
   | int _ n1 w1=>exact ⟨(n0,n1),h,fun μ hμ=>hB μ hμ,w0,w1⟩
end
end Go.Sim
end
noncomputable section
namespace Go.Sim.M
open Go.RowKit Go.Sim.Srt
def Strict {α:Type} (c:α→α→Int) (l:List α):Prop:=l.Pairwise fun x y=>c x y<0
theorem Cm.self {α:Type} {c:α→α→Int} (h:Cm c) (x:α):c x x=0:=by have:=h.swap x x;omega
theorem Strict.nodup {α:Type} {c:α→α→Int} (hc:Cm c) {l:List α} (h:Strict c l):l.Nodup :=
 List.Pairwise.imp (fun {x y} hxy he=>by subst he;rw [hc.self] at hxy;omega) h
theorem xki {A:List Per} (h:IsSpan A) (h0:∀ t,inL A t=false):A=[]:=xha h xlE fun t=>by rw [h0,xfn]
structure IsLevs (N:Int→Nat) (P:List Per):Prop where
 sorted:Sorted cmpP P
 lev:∃ (A:Nat→List Per) (H:Nat),(∀ t,N t≤H)∧(∀ h,IsSpan (A h)∧∀ t,inL (A h) t=decide (h<N t))∧P.Perm ((List.range H).flatMap A)
theorem xfJ (A:Nat→List Per) (H:Nat) (h0:∀ h,H≤h→A h=[]):∀ d,(List.range (H+d)).flatMap A=(List.range H).flatMap A
 | 0=>rfl
 | d+1=>by rw [←Nat.add_assoc,List.range_succ,List.flatMap_append,xfJ A H h0 d,List.flatMap_cons,h0 (H+d) (by omega)];simp
theorem xoc {A:List Per} {N:Int→Nat} {k:Nat} (hs:IsSpan A) (hN:∀ t,inL A t=decide (k<N t)) {p:Per} (hp:p∈A):(∀ t,p.1≤t→t<p.2→k<N t)∧N (p.1 - 1)≤k∧N p.2≤k:=by
 have hv:=xar.1 (hs.1 p hp)
 refine ⟨fun t h1 h2=>?_,?_,?_⟩
 · have:inL A t=true:=xbO.2 ⟨p,hp,hs.1 p hp,h1,h2⟩
   rw [hN] at this;simpa using this
 · have:inL A (p.1 - 1)=false:=by
    cases hc:inL A (p.1 - 1) with
    | false=>rfl
    | true =>
     obtain ⟨q,hq,hqv,h1,h2⟩:=xbO.1 hc
     have hne:p≠q:=fun e=>by subst e;omega
     rcases pairwise_mem hs.2 hp hq hne with h|h<;>omega
   rw [hN] at this;simpa using this
 · have:inL A p.2=false:=by
    cases hc:inL A p.2 with
    | false=>rfl
    | true =>
     obtain ⟨q,hq,hqv,h1,h2⟩:=xbO.1 hc
     have hne:p≠q:=fun e=>by subst e;omega
     rcases pairwise_mem hs.2 hp hq hne with h|h<;>omega
   rw [hN] at this;simpa using this
where
 pairwise_mem {l:List Per} (h:l.Pairwise fun p q=>p.2<q.1) {p q:Per} (hp:p∈l) (hq:q∈l) (hne:p≠q):p.2<q.1∨q.2<p.1:=by
  induction l with
  | nil=>simp at hp
  | cons x l ih =>
   obtain ⟨h1,h2⟩:=List.pairwise_cons.1 h
   rcases List.mem_cons.1 hp with e1|hp1
   · rcases List.mem_cons.1 hq with e2|hq1
     · exact absurd (e1.trans e2.symm) hne
     · exact .inl (e1▸h1 q hq1)
   · rcases List.mem_cons.1 hq with e2|hq1
     · exact .inr (e2▸h1 p hp1)
     · exact ih h2 hp1 hq1
def cnt (l:List Fc) (r:Row) (t:Int):Nat:=l.countP fun f=>decide (f.r=r)&&hasP f.p t
def IsRows (l:List Fc) (R:List Row):Prop:=Strict cmpR R∧∀ r,r∈R↔∃ f,f∈l∧f.r=r∧pv f.p=true
theorem xk3 {l:List Fc} {r:Row} {t:Int}:0<cnt l r t↔∃ f,f∈l∧f.r=r∧hasP f.p t=true:=by
 unfold cnt
 rw [List.countP_pos_iff]
 simp
theorem xne {p:Per} (h:pv p=true):hasP p p.1=true:=by
 have:=xar.1 h
 exact xbI.2 ⟨h,by omega,by omega⟩
theorem xi2 {p:Per} {t:Int} (h:hasP p t=true):pv p=true:=(xbI.1 h).1
theorem xnG {l:List Fc} {r:Row}:(∃ f,f∈l∧f.r=r∧pv f.p=true)↔∃ t,0<cnt l r t:=by
 constructor
 · rintro ⟨f,h1,h2,h3⟩
   exact ⟨f.p.1,xk3.2 ⟨f,h1,h2,xne h3⟩⟩
 · rintro ⟨t,h⟩
   obtain ⟨f,h1,h2,h3⟩:=xk3.1 h
   exact ⟨f,h1,h2,xi2 h3⟩
def facts (R:List Row) (L:Row→List Per):List Fc:=R.flatMap fun r=>(L r).map fun p=>⟨r,p⟩
def IsBag (l B:List Fc):Prop:=∃ R L,IsRows l R∧(∀ r,r∈R→IsLevs (cnt l r) (L r))∧B=facts R L
theorem IsRows.zero {l:List Fc} {R:List Row} (h:IsRows l R) {r:Row} (hr:r∉R) (t:Int):cnt l r t=0:=by
 cases hc:cnt l r t with
 | zero=>rfl
 | succ n=>exact absurd ((h.2 r).2 (xnG.2 ⟨t,by omega⟩)) hr
def psOf (l:List Fc) (r:Row):List Per:=(l.filter fun f=>decide (f.r=r)&&pv f.p).map (·.p)
theorem xoO (l:List Fc) (r:Row) (t:Int):(psOf l r).countP (hasP · t)=cnt l r t:=by
 unfold psOf cnt
 rw [List.countP_map,List.countP_filter]
 refine List.countP_congr fun f _=>?_
 simp only [Function.comp,Bool.and_eq_true,decide_eq_true_eq]
 constructor
 · rintro ⟨h1,h2,_⟩;exact ⟨h2,h1⟩
 · rintro ⟨h1,h2⟩;exact ⟨h2,h1,xi2 h2⟩
theorem xlv {ps:List Per} {t:Int} {k:Nat} (h1:k<ps.countP (hasP · t)) (h2:ps.countP (hasP · (t - 1))≤k):t∈ps.map (·.1):=by
 have:∃ p,p∈ps∧hasP p t=true∧hasP p (t - 1)=false:=by
  refine Classical.byContradiction fun hn=>?_
  have:ps.countP (hasP · t)≤ps.countP (hasP · (t - 1)):=List.countP_mono_left fun p hp h=>by
   cases hc:hasP p (t - 1) with
   | true=>rfl
   | false=>exact absurd ⟨p,hp,h,hc⟩ hn
  omega
 obtain ⟨p,hp,a,b⟩:=this
 obtain ⟨hv,x,y⟩:=xbI.1 a
 have:¬ p.1≤t - 1:=fun h=>by rw [xbI.2 ⟨hv,h,by omega⟩] at b;cases b
 exact List.mem_map.2 ⟨p,hp,by omega⟩
theorem xob {ps A:List Per} {k:Nat} (hs:IsSpan A) (hN:∀ t,inL A t=decide (k<ps.countP (hasP · t))):A.length≤ps.length:=by
 have hn:(A.map (·.1)).Nodup:=by
  unfold List.Nodup
  rw [List.pairwise_map]
  refine List.Pairwise.imp_of_mem (fun {p q} hp hq h=>?_) hs.2
  have:=xar.1 (hs.1 p hp);omega
 have:(A.map (·.1)) ⊆ ps.map (·.1):=fun t ht=>by
  obtain ⟨p,hp,rfl⟩:=List.mem_map.1 ht
  obtain ⟨a,b,_⟩:=xoc (N:=fun t=>ps.countP (hasP · t)) hs hN hp
  have hv:=xar.1 (hs.1 p hp)
  exact xlv (a p.1 (Int.le_refl _) (by omega)) b
 have:=hn.length_le_of_subset this
 simpa using this
theorem IsLevs.len {ps P:List Per} (h:IsLevs (fun t=>ps.countP (hasP · t)) P):P.length≤ps.length*ps.length:=by
 obtain ⟨A,H,h1,h2,h3⟩:=h.lev
 have hx:P.length=((List.range ps.length).flatMap A).length:=by
  rw [h3.length_eq]
  have nil:∀ k,ps.length≤k→A k=[]:=fun k hk=>xki (h2 k).1 fun t=>by
   rw [(h2 k).2]
   have:=List.countP_le_length (p:=(hasP · t)) (l:=ps)
   simp;omega
  have nil2:∀ k,H≤k→A k=[]:=fun k hk=>xki (h2 k).1 fun t=>by
   rw [(h2 k).2];have:=h1 t;simp;omega
  rcases Nat.le_total H ps.length with hle|hle
  · have:=xfJ A H nil2 (ps.length - H)
    rw [show H+(ps.length - H)=ps.length by omega] at this
    rw [this]
  · have:=xfJ A ps.length nil (H - ps.length)
    rw [show ps.length+(H - ps.length)=H by omega] at this
    rw [this]
 rw [hx]
 have:=xhi (g:=A) (c:=ps.length) (List.range ps.length) fun k _=>xob (h2 k).1 (h2 k).2
 simpa using this
theorem xi4 {L:Row→List Per}:∀ {R:List Row} {l:List Fc},R.Nodup→(∀ r,r∈R→(L r).length≤(psOf l r).length*(psOf l r).length)→(facts R L).length≤l.length*l.length
 | [],l,_,_=>by simp [facts]
 | r::R,l,hn,h=>by
  obtain ⟨n1,n2⟩:=List.nodup_cons.1 hn
  have e:facts (r::R) L=((L r).map fun p=>(⟨r,p⟩:Fc))++facts R L:=by simp [facts]
  let l2:=l.filter fun f=>!decide (f.r=r)
  have hps:∀ r',r'∈R→psOf l2 r'=psOf l r':=fun r' hr'=>by
   have hne:r'≠r:=fun e=>n1 (e▸hr')
   unfold psOf
   simp only [l2,List.filter_filter]
   congr 1
   refine List.filter_congr fun f _=>?_
   by_cases hf:f.r=r'
   · have:¬ f.r=r:=fun e=>hne (hf▸e)
     simp [hf,hne]
   · simp [hf]
  have ih:=xi4 (L:=L) (l:=l2) n2 fun r' hr'=>by rw [hps r' hr'];exact h r' (by simp [hr'])
  have h1:=h r (by simp)
  have hl:(psOf l r).length+l2.length≤l.length:=by
   unfold psOf
   rw [List.length_map]
   have:=List.length_eq_countP_add_countP (fun f:Fc=>decide (f.r=r)) (l:=l)
   have a1:(l.filter fun f=>decide (f.r=r)&&pv f.p).length≤l.countP fun f=>decide (f.r=r):=by
    rw [←List.countP_eq_length_filter]
    exact List.countP_mono_left fun f _ hf=>by simp only [Bool.and_eq_true] at hf;exact hf.1
   have a2:l2.length=l.countP fun f=>¬ decide (f.r=r)=true:=by
    rw [List.countP_eq_length_filter];simp [l2]
   omega
  rw [e,List.length_append,List.length_map]
  have m1:=Nat.mul_le_mul hl hl
  have m2:(psOf l r).length*(psOf l r).length+l2.length*l2.length≤((psOf l r).length+l2.length)*((psOf l r).length+l2.length):=by
   rw [Nat.add_mul,Nat.mul_add,Nat.mul_add];omega
  omega
theorem IsBag.len {l B:List Fc} (h:IsBag l B):B.length≤l.length*l.length:=by
 obtain ⟨R,L,h1,h2,rfl⟩:=h
 refine xi4 (h1.1.nodup xo6) fun r hr=>?_
 have:=h2 r hr
 rw [show cnt l r=fun t=>(psOf l r).countP (hasP · t) from funext fun t=>(xoO l r t).symm] at this
 exact this.len
end Go.Sim.M
end
noncomputable section
namespace Go.Sim.M
open Go.RowKit Go.Sim.Srt
structure StepI (N:Int→Int) (T:Int) (S:List Per):Prop where
 asc:S.Pairwise fun a b=>a.1<b.1
 mem:∀ s,s∈S↔0≤s.1∧s.1<T∧s.2=N s.1∧(s.1=0∨N (s.1 - 1)≠s.2)
 last:0<T→∃ S' f,S=S'++[(f,N (T - 1))]
theorem StepI.nil (N:Int→Int):StepI N 0 []:=⟨List.Pairwise.nil,fun s=>by simp;omega,fun h=>by omega⟩
def putS (S:List Per) (f n:Int):List Per:=match S.getLast? with
 | some s=>if s.2=n then S else S++[(f,n)]
 | none=>S++[(f,n)]
theorem StepI.put {N:Int→Int} {T T':Int} {S:List Per} (h:StepI N T S) (h0:0≤T) (hlt:T<T') (hc:∀ t,T≤t→t<T'→N t=N T):StepI N T' (putS S T (N T)):=by
 rcases Int.lt_or_eq_of_le h0 with hp|hz
 · obtain ⟨S',f,rfl⟩:=h.last hp
   unfold putS
   rw [List.getLast?_append]
   simp only [List.getLast?_singleton,Option.some_or]
   by_cases he:N (T - 1)=N T
   · rw [if_pos he]
     refine ⟨h.asc,fun s=>?_,fun _=>⟨S',f,by rw [he,hc (T' - 1) (by omega) (by omega)]⟩⟩
     rw [h.mem]
     constructor
     · rintro ⟨a,b,c,d⟩;exact ⟨a,by omega,c,d⟩
     · rintro ⟨a,b,c,d⟩
       refine ⟨a,?_,c,d⟩
       rcases Int.lt_or_le s.1 T with hs|hs
       · exact hs
       · exfalso
         have e1:=hc s.1 hs b
         rcases d with d|d
         · omega
         · rcases Int.lt_or_eq_of_le hs with h2|h2
           · have e2:=hc (s.1 - 1) (by omega) (by omega)
             exact d (by rw [e2,c,e1])
           · rw [←h2] at d c;exact d (by rw [he,c])
   · rw [if_neg he]
     refine ⟨?_,fun s=>?_,fun _=>⟨_,T,by rw [hc (T' - 1) (by omega) (by omega)]⟩⟩
     · rw [List.pairwise_append]
       refine ⟨h.asc,List.pairwise_singleton _ _,fun a ha b hb=>?_⟩
       simp only [List.mem_singleton] at hb
       subst hb
       exact ((h.mem a).1 ha).2.1
     · rw [List.mem_append,h.mem,List.mem_singleton]
       constructor
       · rintro (⟨a,b,c,d⟩|rfl)
         · exact ⟨a,by omega,c,d⟩
         · exact ⟨h0,hlt,rfl,.inr he⟩
       · rintro ⟨a,b,c,d⟩
         rcases Int.lt_or_le s.1 T with hs|hs
         · exact .inl ⟨a,hs,c,d⟩
         · right
           have e1:=hc s.1 hs b
           rcases Int.lt_or_eq_of_le hs with h2|h2
           · exfalso
             have e2:=hc (s.1 - 1) (by omega) (by omega)
             rcases d with d|d
             · omega
             · exact d (by rw [e2,c,e1])
           · exact Prod.ext h2.symm (by rw [c,e1])
 · subst hz
   have hS:S=[]:=by
    rw [List.eq_nil_iff_forall_not_mem]
    intro s hs
    have:=(h.mem s).1 hs
    omega
   subst hS
   refine ⟨by simp [putS],fun s=>?_,fun _=>⟨[],0,by simp [putS];exact (hc (T' - 1) (by omega) (by omega)).symm⟩⟩
   simp only [putS,List.getLast?_nil,List.nil_append,List.mem_singleton]
   constructor
   · rintro rfl;exact ⟨Int.le_refl _,hlt,rfl,.inl rfl⟩
   · rintro ⟨a,b,c,d⟩
     have e1:=hc s.1 a b
     rcases Int.lt_or_eq_of_le a with h2|h2
     · exfalso
       have e2:=hc (s.1 - 1) (by omega) (by omega)
       rcases d with d|d
       · omega
       · exact d (by rw [e2,c,e1])
     · exact Prod.ext h2.symm (by rw [c,e1])
theorem xnD (S:List Per) (f n:Int):(putS S f n).length≤S.length+1:=by
 unfold putS;repeat' split
 all_goals simp
def sumC (l:List Cnt) (t:Int):Int:=(l.map fun c=>if hasP c.1 t=true then c.2 else 0).sum
theorem xjo (c:Cnt) (l:List Cnt) (t:Int):sumC (c::l) t=(if hasP c.1 t=true then c.2 else 0)+sumC l t:=by simp [sumC]
theorem xnc (ps:List Per) (t:Int):sumC (ps.map fun p=>(p,(1:Int))) t=(ps.countP (hasP · t):Nat):=by
 induction ps with
 | nil=>rfl
 | cons p ps ih =>
  rw [List.map_cons,xjo,ih,List.countP_cons]
  split<;>simp_all<;>omega
end Go.Sim.M
end
noncomputable section
set_option maxRecDepth 100000
namespace Go.Sim.M
open Go.RowKit Go.Sim.Srt
theorem xlZ {α:Type} (l:List α):l=[]∨∃ m a,l=m++[a]:=by
 rcases List.eq_nil_or_concat l with h|⟨m,a,h⟩
 · exact .inl h
 · exact .inr ⟨m,a,by rw [h,List.concat_eq_append]⟩
theorem xor (S:List Per) (f n:Int) (hS:S.length≤16777216):∃ p,xeP S.length f n (S.map encP)=some p∧br p.1 p.2.1.1 p.2.2.1=(putS S f n).length∧br p.1 p.2.1.2 p.2.2.2=(putS S f n).map encP:=by
 have m1:(S.length+1)*16≤140737488355328:=by omega
 have m2:S.length+1≤4611686018427387904:=by omega
 rcases xlZ S with rfl|⟨S',s,rfl⟩
 · refine ⟨(false,(0,[]),(1,[encP (f,n)])),?_,rfl,rfl⟩
   unfold xeP xdC
   simp [xhI,encP]
 · have hk:IntKind.i64.wrap (((S'++[s]).length:Int) - 1)=((S'.length:Nat):Int):=by
    rw [List.length_append,xb5 (by simp<;>omega) (by simp at hS ⊢<;>omega)];simp
   have g1:((S'++[s]).length:Int)>0:=by simp<;>omega
   have g2:(S'.length:Int)<((S'++[s]).length:Int):=by simp<;>omega
   have g3:S'.length<(S'++[s]).length:=by simp
   have gf:((S'++[s]).map encP).getD S'.length .top=encP s:=by
    rw [xb2 _ _ _ (by simp)];simp
   have hl:(S'++[s]).getLast?=some s:=by simp
   by_cases he:s.2=n
   · refine ⟨(true,((S'++[s]).length,(S'++[s]).map encP),(0,[])),?_,?_,?_⟩
     · unfold xeP xdC
       simp only [hk,g1,g2,g3,gf,List.length_map,xaZ,xaY,decide_true,decide_false,Bool.and_true,Bool.true_and,Bool.not_true,Bool.not_false,Int.toNat_natCast,Int.natCast_nonneg,Option.isSome_some,Option.getD_some,beq_self_eq_true,Nat.zero_add,Nat.sub_zero,cP0,cP1,lP,sP,sP0,sP1,he]
     · simp only [xaZ,putS,hl,if_pos he]
     · simp only [xaZ,putS,hl,if_pos he]
   · have he':(s.2==n)=false:=by simp [he]
     refine ⟨(false,(0,[]),((S'++[s]).length+1,(S'++[s]).map encP++[encP (f,n)])),?_,?_,?_⟩
     · unfold xeP xdC
       simp only [hk,g1,g2,g3,gf,List.length_map,xaZ,xaY,decide_true,decide_false,Bool.and_true,Bool.true_and,Bool.not_true,Bool.not_false,Int.toNat_natCast,Int.natCast_nonneg,Option.isSome_some,Option.getD_some,beq_self_eq_true,Nat.zero_add,Nat.sub_zero,cP0,cP1,lP,sP,sP0,sP1,he',m1,m2]
       rfl
     · simp only [xaY,putS,hl,if_neg he];simp
     · simp only [xaY,putS,hl,if_neg he];simp
def Tame (l:List Cnt):Prop:=l.length≤262144∧∀ c,c∈l→-1099511627776≤c.2∧c.2≤1099511627776
end Go.Sim.M
end
noncomputable section
set_option maxRecDepth 100000
namespace Go.Sim.M
open Go.RowKit Go.Sim.Srt Go.Sort
def chg (c:Cnt):List Per:=if pv c.1=true then [(c.1.1,c.2),(c.1.2,-c.2)] else []
theorem xk2 {l:List Cnt}:∀ s,s∈l.flatMap chg→0≤s.1∧s.1≤1099511627776:=fun s hs=>by
 obtain ⟨c,hc,h⟩:=List.mem_flatMap.1 hs
 unfold chg at h
 split at h
 · rename_i hv
   have:=xar.1 hv
   simp only [List.mem_cons,List.not_mem_nil,or_false] at h
   rcases h with rfl|rfl<;>dsimp only<;>omega
 · simp at h
theorem xn2 (c:Cnt):(chg c).length≤2:=by unfold chg;split<;>simp
def sumS (S:List Per) (t:Int):Int:=(S.map fun s=>if s.1≤t then s.2 else 0).sum
theorem xhd (a b:List Per) (t:Int):sumS (a++b) t=sumS a t+sumS b t:=by simp [sumS]
theorem xnL {a b:List Int} (h:a.Perm b):a.sum=b.sum:=by
 induction h with
 | nil=>rfl
 | cons x _ ih=>simp [ih]
 | swap x y l=>simp;omega
 | trans _ _ h1 h2=>rw [h1,h2]
theorem xnd {a b:List Per} (h:a.Perm b) (t:Int):sumS a t=sumS b t:=xnL (h.map _)
theorem xkk (t:Int):∀ l:List Cnt,sumS (l.flatMap chg) t=sumC l t
 | []=>rfl
 | c::l=>by
  rw [List.flatMap_cons,xhd,xkk t l,xjo]
  congr 1
  unfold chg
  cases hv:pv c.1 with
  | false=>simp [sumS,hasP,hv]
  | true =>
   have:=xar.1 hv
   simp only [if_true,sumS,List.map_cons,List.map_nil,List.sum_cons,List.sum_nil,hasP,hv,Bool.true_and,Bool.and_eq_true,decide_eq_true_eq]
   by_cases h1:c.1.1≤t<;>by_cases h2:c.1.2≤t
   · rw [if_pos h1,if_pos h2,if_neg (by omega)];omega
   · rw [if_pos h1,if_neg h2,if_pos (by omega)];omega
   · omega
   · rw [if_neg h1,if_neg h2,if_neg (by omega)];omega
theorem sum0:∀ L:List Per,(L.map fun _=>(0:Int)).sum=0
 | []=>rfl
 | _::L=>by rw [List.map_cons,List.sum_cons,sum0 L];rfl
def preS (S:List Per) (i:Nat):Int:=((S.take i).map (·.2)).sum
theorem xjc (S:List Per) (i:Nat) (h:i<S.length):preS S (i+1)=preS S i+S[i].2:=by
 unfold preS
 rw [List.take_add_one,List.getElem?_eq_getElem h,List.map_append,List.sum_append]
 simp
theorem xnB (S:List Per) (i:Nat) (hi:i≤S.length) (t:Int) (h1:∀ k (h:k<S.length),k<i→S[k].1≤t) (h2:∀ k (h:k<S.length),i≤k→t<S[k].1):preS S i=sumS S t:=by
 have e:S=S.take i++S.drop i:=(List.take_append_drop i S).symm
 conv=>rhs;rw [e]
 rw [xhd]
 have a1:sumS (S.take i) t=preS S i:=by
  unfold sumS preS
  congr 1
  refine List.map_congr_left fun s hs=>?_
  obtain ⟨k,hk,rfl⟩:=List.mem_iff_getElem.1 hs
  rw [List.length_take] at hk
  rw [List.getElem_take,if_pos (h1 k (by omega) (by omega))]
 have a2:sumS (S.drop i) t=0:=by
  unfold sumS
  have:(S.drop i).map (fun s=>if s.1≤t then s.2 else 0)=(S.drop i).map fun _=>(0:Int):=by
   refine List.map_congr_left fun s hs=>?_
   obtain ⟨k,hk,rfl⟩:=List.mem_iff_getElem.1 hs
   rw [List.length_drop] at hk
   have:=h2 (i+k) (by omega) (by omega)
   rw [List.getElem_drop,if_neg (by omega)]
  rw [this]
  exact sum0 _
 omega
theorem xke {B:Int} (hB:0≤B) (S:List Per) (h:∀ s,s∈S→-B≤s.2∧s.2≤B):∀ i,i≤S.length→-(B*i)≤preS S i∧preS S i≤B*i
 | 0,_=>by simp [preS]
 | i+1,hi=>by
  have ih:=xke hB S h i (by omega)
  have hs:=h S[i] (List.getElem_mem (by omega))
  rw [xjc S i (by omega),show B*((i+1:Nat):Int)=B*(i:Int)+B by rw [Int.natCast_add,Int.mul_add];simp]
  omega
def toS (e:Per):TyS:=(Fin.ofNat 1099511627777 e.1.toNat,e.2)
def ofS (x:TyS):Per:=((x.1.val:Int),x.2)
theorem xof {e:Per} (h1:0≤e.1) (h2:e.1≤1099511627776):ofS (toS e)=e:=by
 have:e.1.toNat % 1099511627777=e.1.toNat:=Nat.mod_eq_of_lt (by omega)
 simp only [ofS,toS,Fin.ofNat,this,Int.toNat_of_nonneg h1]
theorem xoz (E:List Per) (h:∀ e,e∈E→0≤e.1∧e.1≤1099511627776):(E.map encP).all isS=true∧∃ S:List Per,srtS (E.map encP)=S.map encP∧S.Perm E∧S.Pairwise fun x y=>x.1≤y.1:=by
 refine ⟨?_,(pdqL cmpS (E.map toS)).map ofS,?_,?_,?_⟩
 · rw [List.all_eq_true]
   intro x hx
   obtain ⟨e,he,rfl⟩:=List.mem_map.1 hx
   have:=h e he
   show (decide _&&decide _)=true
   rw [decide_eq_true this.1,decide_eq_true this.2];rfl
 · unfold srtS
   have e1:(E.map encP).map decS=E.map toS:=by rw [List.map_map];rfl
   rw [e1,List.map_map];rfl
 · have hp:=((xeN cmpS swoS (E.map toS)).1).map ofS
   have e2:(E.map toS).map ofS=E:=by
    rw [List.map_map]
    conv=>rhs;rw [←List.map_id E]
    refine List.map_congr_left fun e he=>?_
    exact xof (h e he).1 (h e he).2
   rwa [e2] at hp
 · rw [List.pairwise_map]
   refine (xkE cmpS swoS (E.map toS)).imp fun {x y} hxy=>?_
   show ((x.1.val:Nat):Int)≤((y.1.val:Nat):Int)
   unfold cmpS at hxy
   omega
theorem xoa (n o:Nat):xa1 n o=xas n o 0:=rfl
theorem xhA (l:List Cnt) (hl:l.length≤1048576) (ht:∀ c,c∈l→-1099511627776≤c.2∧c.2≤1099511627776):Iter (xaz (l.map encC) ((l.length:Nat):Int)) ((0:Nat),(0:Int),[])=some ((l.flatMap (fun (f:Cnt)=>chg f)).length,(l.flatMap (fun (f:Cnt)=>chg f)).map encP):=by
 refine xj2 l (fun (f:Cnt)=>chg f) encP 2 (fun f hf=>?_) (fun n h D hD=>?_) (fun D=>?_)
 · cases hc0:(pv (f).1)<;>simp [chg,hc0]
 · have h1:(n:Int)<(l.length:Int):=by omega
   have m1:(D.length+2)*16≤140737488355328:=by omega
   have m2:D.length+2≤4611686018427387904:=by omega
   have gf:(l.map encC).getD n .top=encC l[n]:=xb2 _ _ _ h
   have hm:=ht l[n] (List.getElem_mem h)
   have hw:IntKind.i64.wrap (0 - l[n].2)=-l[n].2:=by rw [xb5 (by omega) (by omega)];omega
   simp only [xaz,xcq,List.length_map,xaZ,xaY,decide_true,decide_false,Bool.and_true,Bool.true_and,Bool.not_true,Bool.not_false,Int.toNat_natCast,Int.natCast_nonneg,Option.isSome_some,Option.getD_some,beq_self_eq_true,Nat.zero_add,Nat.sub_zero,h,h1,gf,cC0,cC1,cC2,lC,sC,sC3,sC2,xgr,hw,m1,m2,wrapS (n:=n) (by omega)]
   cases hc0:(pv (l[n]).1)<;>simp [encP,xaZ,xaY,encR,chg,hc0]
 · simp only [xaz,xcq,List.length_map,Int.lt_irrefl,decide_false,xaY]
theorem xhk (S:List Per) (hS:S.length≤1048576) (hb:∀ s,s∈S→-1099511627776≤s.2∧s.2≤1099511627776) (on:Nat) (at':Int) (ox:List AV):∀ (d i:Nat),i+d=S.length→∃ j:Nat,i≤j∧j≤S.length∧(∀ k (h:k<S.length),i≤k→k<j→S[k].1=at')∧(∀ h:j<S.length,S[j].1≠at') ∧
  Iter (xas S.length on at') (preS S i,(i:Int),S.map encP,ox)=some (preS S j,(j:Int),S.map encP,ox)
 | 0,i,h=>by
  refine ⟨i,Nat.le_refl _,by omega,fun k _ h1 h2=>by omega,fun h=>by omega,xeg ?_⟩
  have i1:¬ (i:Int)<(S.length:Int):=by omega
  simp only [xas,xbU,xck,i1,decide_false,xaY]
 | d+1,i,h=>by
  have hi:i<S.length:=by omega
  have i1:(i:Int)<(S.length:Int):=by omega
  have gf:(S.map encP).getD i .top=encP S[i]:=xb2 _ _ _ hi
  by_cases he:S[i].1=at'
  · obtain ⟨j,h1,h2,h3,h4,h5⟩:=xhk S hS hb on at' ox d (i+1) (by omega)
    refine ⟨j,by omega,h2,fun k hk a b=>?_,h4,?_⟩
    · rcases Nat.lt_or_eq_of_le a with a|a
      · exact h3 k hk a b
      · subst a;exact he
    · have hp:=xke (B:=1099511627776) (by omega) S hb i (by omega)
      have hs:=hb S[i] (List.getElem_mem hi)
      rw [xeK (s':=(preS S (i+1),((i+1:Nat):Int),S.map encP,ox)) ?_,h5]
      simp only [xas,xbU,xck,List.length_map,xaZ,xaY,decide_true,decide_false,Bool.and_true,Bool.true_and,Bool.not_true,Bool.not_false,Int.toNat_natCast,Int.natCast_nonneg,Option.isSome_some,Option.getD_some,beq_self_eq_true,Nat.zero_add,Nat.sub_zero,hi,i1,gf,cP0,cP1,lP,sP,sP0,sP1,he,wrapS (n:=i) (by omega),xjc S i hi]
      rw [xb5 (by omega) (by omega)]
  · have he':(S[i].1==at')=false:=by simp [he]
    refine ⟨i,Nat.le_refl _,by omega,fun k _ h1 h2=>by omega,fun _=>he,xeg ?_⟩
    simp only [xas,xbU,xck,List.length_map,xaZ,xaY,decide_true,decide_false,Bool.and_true,Bool.true_and,Bool.not_true,Bool.not_false,Int.toNat_natCast,Int.natCast_nonneg,Option.isSome_some,Option.getD_some,beq_self_eq_true,Nat.zero_add,Nat.sub_zero,hi,i1,gf,cP0,cP1,lP,sP,sP0,sP1,he']
theorem xfG (l:List Cnt) (hl:Tame l):∃ S,xcL (l.map encC)=some (S.map encP)∧StepI (sumC l) 1099511627776 S∧S.length≤2*l.length+1:=by
 have hll:=hl.1
 have e0:=xhA l (by omega) hl.2
 have hE:=xhi (g:=chg) (c:=2) l fun c _=>xn2 c
 obtain ⟨hall,S,hS,hp,hso⟩:=xoz (l.flatMap chg) xk2
 have hSl:S.length=(l.flatMap chg).length:=hp.length_eq
 have hrng:∀ s,s∈S→0≤s.1∧s.1≤1099511627776:=fun s hs=>xk2 s (hp.mem_iff.1 hs)
 have hb:∀ s,s∈S→-1099511627776≤s.2∧s.2≤1099511627776:=fun s hs=>by
  obtain ⟨c,hc,h⟩:=List.mem_flatMap.1 (hp.mem_iff.1 hs)
  have:=hl.2 c hc
  unfold chg at h
  split at h
  · simp only [List.mem_cons,List.not_mem_nil,or_false] at h
    rcases h with rfl|rfl<;>dsimp only<;>omega
  · simp at h
 have hN:∀ t,sumS S t=sumC l t:=fun t=>by rw [xnd hp,xkk]
 have hle:∀ a b (ha:a<S.length) (hb:b<S.length),a≤b→S[a].1≤S[b].1:=fun a b ha hb hab=>by
  rcases Nat.lt_or_eq_of_le hab with h|h
  · exact List.pairwise_iff_getElem.1 hso a b ha hb h
  · subst h;exact Int.le_refl _
 let T:Nat→Int:=fun i=>if h:i<S.length then S[i].1 else 1099511627776
 have step:∀ (out:List Per) (i j:Nat) (at':Int),0≤at'→i≤j→j≤S.length→StepI (sumC l) at' out→at'<1099511627776→(∀ k (h:k<S.length),k<i→S[k].1≤at')→(∀ k (h:k<S.length),i≤k→at'≤S[k].1)→(∀ k (h:k<S.length),i≤k→k<j→S[k].1=at')→(∀ h:j<S.length,S[j].1≠at') →
   preS S j=sumC l at'∧StepI (sumC l) (T j) (putS out at' (preS S j))∧at'<T j∧∀ k (h:k<S.length),k<j→S[k].1≤at':=fun out i j at' h0 hij hj hout hF hbef haft heq hne=>by
  have a1:∀ k (h:k<S.length),k<j→S[k].1≤at':=fun k h hk=>by
   rcases Nat.lt_or_ge k i with h1|h1
   · exact hbef k h h1
   · rw [heq k h h1 hk];exact Int.le_refl _
  have a2:∀ k (h:k<S.length),j≤k→at'<S[k].1:=fun k h hk=>by
   have hjl:j<S.length:=by omega
   have b1:=haft j hjl hij
   have b2:=hne hjl
   have b3:=hle j k hjl h hk
   omega
  have hT:at'<T j:=by
   simp only [T]
   split
   · rename_i h;exact a2 j h (Nat.le_refl _)
   · exact hF
  have hpre:∀ t,at'≤t→t<T j→preS S j=sumC l t:=fun t h1 h2=>by
   rw [←hN]
   refine xnB S j hj t (fun k h hk=>by have:=a1 k h hk;omega) fun k h hk=>?_
   have hjl:j<S.length:=by omega
   have b3:=hle j k hjl h hk
   simp only [T,dif_pos hjl] at h2
   omega
  have e:=hpre at' (Int.le_refl _) hT
  refine ⟨e,?_,hT,a1⟩
  rw [e]
  exact hout.put h0 hT fun t h1 h2=>by rw [←hpre t h1 h2,e]
 have hput:∀ (out:List Per) (f n:Int),out.length≤2*l.length+1→∃ p,xaS out.length f n (out.map encP)=some p∧br p.1 p.2.1.1 p.2.2.1=(putS out f n).length∧br p.1 p.2.1.2 p.2.2.2=(putS out f n).map encP:=fun out f n h=>xor out f n (by omega)
 obtain ⟨j0,_,hj0,h3,h4,e1⟩:=xhk S (by omega) hb 0 0 ([]:List AV) S.length 0 (by omega)
 obtain ⟨_,st0,_,bef0⟩:=step [] 0 j0 0 (Int.le_refl _) (Nat.zero_le _) hj0 (.nil _) (by omega) (fun k _ h=>by omega) (fun k h _=>(hrng _ (List.getElem_mem h)).1) h3 h4
 obtain ⟨p0,hp1,hp2,hp3⟩:=hput [] 0 (preS S j0) (by simp)
 have o0:putS [] 0 (preS S j0)=[(0,preS S j0)]:=rfl
 obtain ⟨r,hr,out,rfl,hout,hlen⟩:=xnv (step:=xaA S.length)
  (fun s=>∃ (out:List Per) (i:Nat),s=(out.length,preS S i,(i:Int),S.map encP,out.map encP)∧i≤S.length∧StepI (sumC l) (T i) out∧out.length≤i+1∧∀ k (h:k<S.length) (hi:i<S.length),k<i→S[k].1≤S[i].1) (fun s=>(S.length - s.2.2.1.toNat)) (fun r=>∃ out:List Per,r=(out.length,out.map encP)∧StepI (sumC l) 1099511627776 out∧out.length≤2*l.length+1)
  (by
   rintro _ ⟨out,i,rfl,hi,hst,hol,hbef⟩
   by_cases hil:i<S.length
   · have i1:(i:Int)<(S.length:Int):=by omega
     have gf:(S.map encP).getD i .top=encP S[i]:=xb2 _ _ _ hil
     have hTi:T i=S[i].1:=dif_pos hil
     by_cases hF:S[i].1<1099511627776
     · left
       obtain ⟨j,a1,a2,a3,a4,a5⟩:=xhk S (by omega) hb out.length S[i].1 (out.map encP) (S.length - i) i (by omega)
       rw [hTi] at hst
       obtain ⟨b1,b2,b3,b4⟩:=step out i j S[i].1 (hrng _ (List.getElem_mem hil)).1 a1 a2 hst hF (fun k h hk=>hle k i h hil (by omega)) (fun k h hk=>hle i k hil h hk) a3 a4
       have hij:i<j:=by
        rcases Nat.lt_or_eq_of_le a1 with h|h
        · exact h
        · subst h;exact absurd rfl (a4 hil)
       obtain ⟨p,hp1,hp2,hp3⟩:=hput out S[i].1 (preS S j) (by omega)
       have hpl:=xnD out S[i].1 (preS S j)
       refine ⟨((putS out S[i].1 (preS S j)).length,preS S j,(j:Int),S.map encP,(putS out S[i].1 (preS S j)).map encP),?_,⟨_,j,rfl,a2,b2,by omega,fun k h hj hk=>hle k j h hj (by omega)⟩,by dsimp only;rw [Int.toNat_natCast,Int.toNat_natCast];omega⟩
       simp only [xaA,xbS,xca,xcb,xcc,xcd,xce,xcf,xcg,xch,xci,xcj,xb0,xb1,xbB,List.length_map,xaZ,xaY,decide_true,decide_false,Bool.and_true,Bool.true_and,Bool.not_true,Bool.not_false,Int.toNat_natCast,Int.natCast_nonneg,Option.isSome_some,Option.getD_some,beq_self_eq_true,Nat.zero_add,Nat.sub_zero,hil,i1,gf,cP0,cP1,lP,sP,sP0,sP1,hF,a5,hp1,hp2,hp3]
     · right
       have hFe:S[i].1=1099511627776:=by have:=(hrng _ (List.getElem_mem hil)).2;omega
       refine ⟨(out.length,out.map encP),?_,out,rfl,by rw [←hFe,←hTi];exact hst,by omega⟩
       simp only [xaA,xbS,xca,xcb,xcc,xcd,xce,xcf,xcg,xch,xci,xcj,xb0,xb1,xbB,List.length_map,xaZ,xaY,decide_true,decide_false,Bool.and_true,Bool.true_and,Bool.not_true,Bool.not_false,Int.toNat_natCast,Int.natCast_nonneg,Option.isSome_some,Option.getD_some,beq_self_eq_true,Nat.zero_add,Nat.sub_zero,hil,i1,gf,cP0,cP1,lP,sP,sP0,sP1,hF]
   · right
     have i1:¬ (i:Int)<(S.length:Int):=by omega
     have hTi:T i=1099511627776:=dif_neg hil
     refine ⟨(out.length,out.map encP),?_,out,rfl,by rw [←hTi];exact hst,by omega⟩
     simp only [xaA,xbS,xca,xcb,xcc,xcd,xce,xcf,xcg,xch,xci,xcj,xb0,xb1,xbB,List.length_map,xaZ,xaY,decide_true,decide_false,Bool.and_true,Bool.true_and,Bool.not_true,Bool.not_false,Int.toNat_natCast,Int.natCast_nonneg,Option.isSome_some,Option.getD_some,beq_self_eq_true,Nat.zero_add,Nat.sub_zero,i1])
  (([(0,preS S j0)]:List Per).length,preS S j0,(j0:Int),S.map encP,([(0,preS S j0)]:List Per).map encP) ⟨[(0,preS S j0)],j0,rfl,hj0,st0,by simp,fun k h hj hk=>hle k j0 h hj (by omega)⟩
 refine ⟨out,?_,hout,hlen⟩
 have d1:(l.flatMap chg).length<4611686018427387904:=by omega
 have d2:((l.flatMap chg).length).beq (l.flatMap chg).length=true:=Nat.beq_refl _
 have e1':Iter (xa1 (l.flatMap chg).length 0) ((0:Int),(0:Int),S.map encP,[])=some (preS S j0,(j0:Int),S.map encP,[]):=by
  rw [xoa,←hSl];exact e1
 rw [hSl] at hr
 unfold xcL xd5
 have hp1':xaS 0 0 (preS S j0) []=some p0:=hp1
 rw [o0] at hp2 hp3
 simp only [xe6,xe7,xe8,xe9,xfa,xfb,xfc,xfd,xfe,xff,xes,xet,xeu,xev,xew,xcM,xdi,xey,List.length_map,e0,Option.getD_some,Option.isSome_some,xaZ,hall,hS,d1,d2,e1',hp1',hp2,hp3,hr,decide_true,Bool.and_true,List.drop_zero,List.take_of_length_le,Nat.zero_add,List.length_map,Nat.le_refl,decide_true,Bool.and_true,xaZ,Option.isSome_some,Option.getD_some]
end Go.Sim.M
end
noncomputable section
namespace Go.Sim.M
open Go.RowKit Go.Sim.Srt
def setF (s:List Int×List Per) (q:Int×Nat):List Int×List Per:=(s.1.take q.2++List.replicate (q.2 - s.1.length) q.1,s.2++((s.1.drop q.2).reverse.map fun f=>(f,q.1)))
theorem xgX {α β:Type} (A B:α→List β):∀ l:List α,(l.flatMap fun k=>A k++B k).Perm (l.flatMap A++l.flatMap B)
 | []=>List.Perm.refl _
 | a::l=>by
  rw [List.flatMap_cons,List.flatMap_cons,List.flatMap_cons]
  have ih:=xgX A B l
  refine (ih.append_left (A a++B a)).trans ?_
  rw [List.append_assoc,List.append_assoc]
  refine List.Perm.append_left _ ?_
  rw [←List.append_assoc,←List.append_assoc]
  exact List.Perm.append_right _ List.perm_append_comm
theorem xh3 {β:Type} (g:Int→β):∀ (F:List Int) (H n:Nat),F.length≤H→(List.range H).flatMap (fun k=>if n≤k then (F[k]?).toList.map g else [])=(F.drop n).map g
 | [],H,n,_=>by
  rw [List.drop_nil,List.map_nil,List.flatMap_eq_nil_iff]
  intro k _
  split<;>simp
 | x::F,0,n,h=>by simp at h
 | x::F,H+1,n,h=>by
  rw [List.range_succ_eq_map,List.flatMap_cons,List.flatMap_map]
  have ih:=xh3 g F H (n - 1) (by simpa using h)
  have e:(List.range H).flatMap (fun a=>if n≤a.succ then (((x::F)[a.succ]?).toList).map g else [])=(F.drop (n - 1)).map g:=by
   rw [←ih]
   congr 1
   funext a
   have:(n≤a.succ)=(n - 1≤a):=by rw [eq_iff_iff];omega
   simp only [this,List.getElem?_cons_succ,Nat.succ_eq_add_one]
  rw [e]
  cases n with
  | zero=>simp
  | succ n=>simp
structure LvI (N:Int→Nat) (H:Nat) (at':Int) (F:List Int) (out:List Per) (A:Nat→List Per):Prop where
 perm:out.Perm ((List.range H).flatMap A)
 span:∀ k,IsSpan (A k)
 low:∀ k (h:k<F.length),F[k]≤at'∧0≤F[k]∧∀ p,p∈A k→p.2<F[k]
 high:∀ k,F.length≤k→∀ p,p∈A k→p.2≤at'
 cov:∀ k t,t≤at'→((inL (A k) t=true∨∃ h:k<F.length,F[k]≤t)↔k<N t)
 len:F.length=N at'
 top:F.length≤H
theorem LvI.set {N:Int→Nat} {H:Nat} {a b:Int} {F:List Int} {out:List Per} {A:Nat→List Per} (h:LvI N H a F out A) (hab:a<b) (h0:0≤b) (hb:b≤1099511627776) (hc:∀ t,a≤t→t<b→N t=N a) (hH:N b≤H) :
  ∃ A',LvI N H b (setF (F,out) (b,N b)).1 (setF (F,out) (b,N b)).2 A':=by
 have hl:=h.len
 refine ⟨fun k=>A k++(if N b≤k then (F[k]?).toList.map (fun f=>(f,b)) else []),?_,?_,?_,?_,?_,?_,?_⟩
 · refine (List.Perm.append h.perm ?_).trans (xgX A _ _).symm
   rw [xh3 (fun f=>(f,b)) F H (N b) h.top]
   exact (List.reverse_perm _).map _
 · intro k
   by_cases hk:N b≤k
   · rw [if_pos hk]
     by_cases hkF:k<F.length
     · obtain ⟨l1,l2,l3⟩:=h.low k hkF
       rw [List.getElem?_eq_getElem hkF]
       refine ⟨fun p hp=>?_,List.pairwise_append.2 ⟨(h.span k).2,by simp,fun p hp q hq=>?_⟩⟩
       · rcases List.mem_append.1 hp with hp|hp
         · exact (h.span k).1 p hp
         · simp at hp;subst hp;exact xar.2 ⟨l2,by dsimp only;omega,hb⟩
       · simp at hq;subst hq;exact l3 p hp
     · rw [List.getElem?_eq_none (by omega)];simpa using h.span k
   · rw [if_neg hk,List.append_nil];exact h.span k
 · intro k hk
   simp only [setF] at hk ⊢
   rw [List.length_append,List.length_take,List.length_replicate] at hk
   have hkn:¬ N b≤k:=by omega
   simp only [hkn,if_false,List.append_nil]
   by_cases hkF:k<F.length
   · rw [List.getElem_append_left (by rw [List.length_take];omega),List.getElem_take]
     obtain ⟨l1,l2,l3⟩:=h.low k hkF
     exact ⟨by omega,l2,l3⟩
   · rw [List.getElem_append_right (by rw [List.length_take];omega),List.getElem_replicate]
     exact ⟨Int.le_refl _,h0,fun p hp=>by have:=h.high k (by omega) p hp;omega⟩
 · intro k hk p hp
   simp only [setF] at hk
   rw [List.length_append,List.length_take,List.length_replicate] at hk
   have hkn:N b≤k:=by omega
   simp only [hkn,if_true] at hp
   by_cases hkF:k<F.length
   · rw [List.getElem?_eq_getElem hkF] at hp
     rcases List.mem_append.1 hp with hp|hp
     · obtain ⟨l1,l2,l3⟩:=h.low k hkF
       have:=l3 p hp;omega
     · simp at hp;subst hp;exact Int.le_refl _
   · rw [List.getElem?_eq_none (by omega)] at hp
     simp at hp
     have:=h.high k (by omega) p hp;omega
 · intro k t ht
   have hF1:(setF (F,out) (b,N b)).1=F.take (N b)++List.replicate (N b - F.length) b:=rfl
   have key:(∃ hh:k<(setF (F,out) (b,N b)).1.length,(setF (F,out) (b,N b)).1[k]≤t)↔(k<N b∧((∃ hh:k<F.length,F[k]≤t)∨(F.length≤k∧b≤t))):=by
    constructor
    · rintro ⟨hh,hle⟩
      have hh':=hh
      rw [hF1,List.length_append,List.length_take,List.length_replicate] at hh'
      refine ⟨by omega,?_⟩
      by_cases hkF:k<F.length
      · refine .inl ⟨hkF,?_⟩
        have e:(setF (F,out) (b,N b)).1[k]=F[k]:=by
         simp only [hF1]
         rw [List.getElem_append_left (by rw [List.length_take];omega),List.getElem_take]
        rw [←e];exact hle
      · refine .inr ⟨by omega,?_⟩
        have e:(setF (F,out) (b,N b)).1[k]=b:=by
         simp only [hF1]
         rw [List.getElem_append_right (by rw [List.length_take];omega),List.getElem_replicate]
        rw [←e];exact hle
    · rintro ⟨h1,h2⟩
      have hh:k<(setF (F,out) (b,N b)).1.length:=by rw [hF1,List.length_append,List.length_take,List.length_replicate];omega
      refine ⟨hh,?_⟩
      rcases h2 with ⟨hkF,hle⟩|⟨hkF,hle⟩
      · have e:(setF (F,out) (b,N b)).1[k]=F[k]:=by
         simp only [hF1]
         rw [List.getElem_append_left (by rw [List.length_take];omega),List.getElem_take]
        rw [e];exact hle
      · have e:(setF (F,out) (b,N b)).1[k]=b:=by
         simp only [hF1]
         rw [List.getElem_append_right (by rw [List.length_take];omega),List.getElem_replicate]
        rw [e];exact hle
   rw [key]
   have key2:inL (A k++(if N b≤k then (F[k]?).toList.map (fun f=>(f,b)) else [])) t=true↔inL (A k) t=true∨(N b≤k∧(∃ hh:k<F.length,F[k]≤t)∧t<b):=by
    rw [xdb,Bool.or_eq_true]
    refine or_congr Iff.rfl ?_
    by_cases hkn:N b≤k
    · rw [if_pos hkn]
      by_cases hkF:k<F.length
      · obtain ⟨l1,l2,l3⟩:=h.low k hkF
        rw [List.getElem?_eq_getElem hkF]
        have e:inL ((some F[k]).toList.map fun f=>(f,b)) t=hasP (F[k],b) t:=by simp [inL]
        rw [e,xbI,xar]
        dsimp only
        constructor
        · rintro ⟨_,h2,h3⟩;exact ⟨hkn,⟨hkF,h2⟩,h3⟩
        · rintro ⟨_,⟨_,h2⟩,h3⟩;exact ⟨⟨l2,by omega,hb⟩,h2,h3⟩
      · rw [List.getElem?_eq_none (by omega)]
        simp only [Option.toList_none,List.map_nil,xfn,Bool.false_eq_true,false_iff]
        rintro ⟨_,⟨hh,_⟩,_⟩;omega
    · rw [if_neg hkn,xfn]
      simp only [Bool.false_eq_true,false_iff]
      rintro ⟨hh,_⟩;omega
   rw [key2]
   by_cases hta:t≤a
   · have hcov:=h.cov k t hta
     rw [←hcov]
     constructor
     · rintro ((h1|⟨_,h2,_⟩)|⟨_,h2|⟨_,h3⟩⟩)
       · exact .inl h1
       · exact .inr h2
       · exact .inr h2
       · omega
     · rintro (h1|h2)
       · exact .inl (.inl h1)
       · by_cases hkn:N b≤k
         · exact .inl (.inr ⟨hkn,h2,by omega⟩)
         · exact .inr ⟨by omega,.inl h2⟩
   · have hin:inL (A k) t=true→False:=fun hi=>by
      obtain ⟨p,hp,_,p1,p2⟩:=xbO.1 hi
      by_cases hkF:k<F.length
      · obtain ⟨l1,l2,l3⟩:=h.low k hkF
        have:=l3 p hp;omega
      · have:=h.high k (by omega) p hp;omega
     have hex:(∃ hh:k<F.length,F[k]≤t)↔k<F.length:=⟨fun ⟨hh,_⟩=>hh,fun hh=>⟨hh,by have:=(h.low k hh).1;omega⟩⟩
     rw [hex]
     by_cases htb:t<b
     · rw [hc t (by omega) htb,←hl]
       constructor
       · rintro ((h1|⟨_,h2,_⟩)|⟨_,h2|⟨_,h3⟩⟩)
         · exact (hin h1).elim
         · exact h2
         · exact h2
         · omega
       · intro hkF
         by_cases hkn:N b≤k
         · exact .inl (.inr ⟨hkn,hkF,htb⟩)
         · exact .inr ⟨by omega,.inl hkF⟩
     · obtain rfl:t=b:=by omega
       constructor
       · rintro ((h1|⟨_,_,h2⟩)|⟨h1,_⟩)
         · exact (hin h1).elim
         · omega
         · exact h1
       · intro hk
         refine .inr ⟨hk,?_⟩
         by_cases hkF:k<F.length
         · exact .inl hkF
         · exact .inr ⟨by omega,Int.le_refl _⟩
 · show (F.take (N b)++List.replicate (N b - F.length) b).length=N b
   rw [List.length_append,List.length_take,List.length_replicate];omega
 · show (F.take (N b)++List.replicate (N b - F.length) b).length≤H
   rw [List.length_append,List.length_take,List.length_replicate];omega
theorem xiW {N:Int→Nat} {a b:Int} (h:∀ t,a<t→t<b→N (t - 1)=N t):∀ (d:Nat) (t:Int),t=a+d→t<b→N t=N a
 | 0,t,e,_=>by rw [e];simp
 | d+1,t,e,hb=>by
  rw [←h t (by omega) hb]
  exact xiW h d (t - 1) (by omega) (by omega)
end Go.Sim.M
end
noncomputable section
namespace Go.Sim.M
open Go.RowKit Go.Sim.Srt
def pos (S:List Per) (i:Nat):Int:=match S[i]? with
 | some s=>s.1
 | none=>1099511627776
theorem xgq {S:List Per} {i:Nat} (h:i<S.length):pos S i=S[i].1:=by unfold pos;rw [List.getElem?_eq_getElem h]
theorem xgp {S:List Per} {i:Nat} (h:S.length≤i):pos S i=1099511627776:=by unfold pos;rw [List.getElem?_eq_none h]
theorem xhq {N:Int→Nat} {S:List Per} (hS:StepI (fun t=>(N t:Int)) 1099511627776 S) {i:Nat} (hi:i<S.length):0≤pos S i∧pos S i<pos S (i+1)∧pos S (i+1)≤1099511627776∧S[i].2=(N S[i].1:Int)∧∀ t,pos S i≤t→t<pos S (i+1)→N t=N S[i].1:=by
 obtain ⟨m1,m2,m3,_⟩:=(hS.mem S[i]).1 (List.getElem_mem hi)
 rw [xgq hi]
 have hb:S[i].1<pos S (i+1)∧pos S (i+1)≤1099511627776:=by
  by_cases h:i+1<S.length
  · rw [xgq h]
    have:=List.pairwise_iff_getElem.1 hS.asc i (i+1) hi h (by omega)
    have:=((hS.mem S[i+1]).1 (List.getElem_mem h)).2.1
    omega
  · rw [xgp (by omega)];omega
 refine ⟨m1,hb.1,hb.2,m3,fun t h1 h2=>xiW (a:=S[i].1) (b:=pos S (i+1)) (fun u u1 u2=>?_) (t - S[i].1).toNat t (by omega) h2⟩
 by_cases e:N (u - 1)=N u
 · exact e
 · have hu:(u,(N u:Int))∈S:=(hS.mem _).2 ⟨by dsimp only;omega,by dsimp only;omega,rfl,.inr (by dsimp only;omega)⟩
   obtain ⟨k,hk,hke⟩:=List.mem_iff_getElem.1 hu
   have hk1:S[k].1=u:=by rw [hke]
   rcases Nat.lt_or_ge i k with hik|hik
   · have:i+1<S.length:=by omega
     rw [xgq this] at u2
     rcases Nat.lt_or_ge (i+1) k with h3|h3
     · have:=List.pairwise_iff_getElem.1 hS.asc (i+1) k this hk h3;omega
     · obtain rfl:k=i+1:=by omega
       omega
   · rcases Nat.lt_or_ge k i with h3|h3
     · have:=List.pairwise_iff_getElem.1 hS.asc k i hk hi h3;omega
     · obtain rfl:k=i:=by omega
       omega
theorem xkd {N:Int→Nat} {S:List Per} (hS:StepI (fun t=>(N t:Int)) 1099511627776 S):pos S 0=0:=by
 have h0:((0:Int),(N 0:Int))∈S:=(hS.mem _).2 ⟨by simp,by simp,rfl,.inl rfl⟩
 obtain ⟨k,hk,hke⟩:=List.mem_iff_getElem.1 h0
 have h:0<S.length:=by omega
 have p0:=((hS.mem S[0]).1 (List.getElem_mem h)).1
 rw [xgq h]
 have hk1:S[k].1=0:=by rw [hke]
 rcases Nat.lt_or_ge 0 k with h3|h3
 · have:=List.pairwise_iff_getElem.1 hS.asc 0 k h hk h3;omega
 · obtain rfl:k=0:=by omega
   exact hk1
end Go.Sim.M
end
noncomputable section
namespace Go.Sim.M
open Go.RowKit Go.Sim.Srt
def ovl (f:Per) (x y:Int):Int:=if pv f=true then (if max f.1 x<min f.2 y then min f.2 y - max f.1 x else 0) else 0
theorem xom (f:Per) (x:Int):ovl f x x=0:=by unfold ovl;split<;>(try split)<;>omega
theorem xok (f:Per) {x y z:Int} (h1:x≤y) (h2:y≤z):ovl f x z=ovl f x y+ovl f y z:=by
 unfold ovl
 by_cases hv:pv f=true
 · have:=xar.1 hv
   simp only [hv,if_true]
   split<;>split<;>split<;>omega
 · simp [hv]
theorem xon (f:Per) (x:Int):ovl f x (x+1)=if hasP f x=true then 1 else 0:=by
 unfold ovl hasP
 by_cases hv:pv f=true
 · have:=xar.1 hv
   simp only [hv,if_true,Bool.true_and,Bool.and_eq_true,decide_eq_true_eq]
   split<;>split<;>omega
 · simp [hv]
def ovs (l:List Per) (x y:Int):Int:=(l.map fun f=>ovl f x y).sum
theorem xk9 (x:Int):∀ l:List Per,ovs l x x=0
 | []=>rfl
 | f::l=>by
  have:=xk9 x l
  unfold ovs at this ⊢
  rw [List.map_cons,List.sum_cons,this,xom];rfl
theorem xiv {x y z:Int} (h1:x≤y) (h2:y≤z):∀ l:List Per,ovs l x z=ovs l x y+ovs l y z
 | []=>rfl
 | f::l=>by
  have:=xiv h1 h2 l
  unfold ovs at this ⊢
  simp only [List.map_cons,List.sum_cons]
  rw [this,xok f h1 h2];omega
theorem xla (x:Int):∀ l:List Per,ovs l x (x+1)=(l.countP (hasP · x):Nat)
 | []=>rfl
 | f::l=>by
  have:=xla x l
  unfold ovs at this ⊢
  rw [List.map_cons,List.sum_cons,this,xon,List.countP_cons]
  split<;>simp<;>omega
theorem xja {l:List Per} {n:Nat} {x:Int}:∀ (d:Nat),(∀ t,x≤t→t<x+d→l.countP (hasP · t)=n)→ovs l x (x+d)=(n:Int)*d
 | 0,_=>by simp [xk9]
 | d+1,h=>by
  have ih:=xja d fun t t1 t2=>h t t1 (by omega)
  have e:x+((d+1:Nat):Int)=(x+d)+1:=by omega
  rw [e,xiv (y:=x+d) (by omega) (by omega),ih,xla,h (x+d) (by omega) (by omega),Int.natCast_succ,Int.mul_add,Int.mul_one]
def itg (S:List Per) (p:Per):Nat→Int
 | 0=>0
 | k+1=>itg S p k+(match S[k]? with
  | some s=>s.2*(if max p.1 (pos S k)<min p.2 (pos S (k+1)) then min p.2 (pos S (k+1)) - max p.1 (pos S k) else 0)
  | none=>0)
theorem xj5 {l:List Per} {S:List Per} (hS:StepI (fun t=>((l.countP (hasP · t):Nat):Int)) 1099511627776 S) {p:Per} (hp:pv p=true):∀ k,k≤S.length→itg S p k=if p.1<min p.2 (pos S k) then ovs l p.1 (min p.2 (pos S k)) else 0
 | 0,_=>by
  have:=xar.1 hp
  rw [xkd (N:=fun t=>l.countP (hasP · t)) hS,if_neg (by omega)];rfl
 | k+1,hk=>by
  have hlt:k<S.length:=by omega
  have b:=xar.1 hp
  obtain ⟨q1,q2,q3,q4,q5⟩:=xhq (N:=fun t=>l.countP (hasP · t)) hS hlt
  have ih:=xj5 hS hp k (by omega)
  unfold itg
  rw [ih,List.getElem?_eq_getElem hlt]
  dsimp only
  by_cases h1:max p.1 (pos S k)<min p.2 (pos S (k+1))
  · rw [if_pos h1,if_pos (show p.1<min p.2 (pos S (k+1)) by omega)]
    have hc:=xja (l:=l) (n:=l.countP (hasP · S[k].1)) (x:=max p.1 (pos S k)) (min p.2 (pos S (k+1)) - max p.1 (pos S k)).toNat (fun t t1 t2=>q5 t (by omega) (by omega))
    have e1:max p.1 (pos S k)+((min p.2 (pos S (k+1)) - max p.1 (pos S k)).toNat:Int)=min p.2 (pos S (k+1)):=by omega
    have e2:((min p.2 (pos S (k+1)) - max p.1 (pos S k)).toNat:Int)=min p.2 (pos S (k+1)) - max p.1 (pos S k):=by omega
    rw [e1,e2] at hc
    rw [q4,←hc]
    by_cases h2:p.1<min p.2 (pos S k)
    · rw [if_pos h2]
      have e3:max p.1 (pos S k)=min p.2 (pos S k):=by omega
      rw [e3]
      exact (xiv (by omega) (by omega) l).symm
    · rw [if_neg h2]
      have e3:max p.1 (pos S k)=p.1:=by omega
      rw [e3];omega
  · rw [if_neg h1,Int.mul_zero,Int.add_zero]
    by_cases h2:p.1<min p.2 (pos S k)
    · rw [if_pos h2,if_pos (show p.1<min p.2 (pos S (k+1)) by omega)]
      have e3:min p.2 (pos S k)=min p.2 (pos S (k+1)):=by omega
      rw [e3]
    · rw [if_neg h2,if_neg (show ¬ p.1<min p.2 (pos S (k+1)) by omega)]
theorem xn9 {l:List Per} {S:List Per} (hS:StepI (fun t=>((l.countP (hasP · t):Nat):Int)) 1099511627776 S) {p:Per} (hp:pv p=true):itg S p S.length=ovs l p.1 p.2:=by
 have b:=xar.1 hp
 rw [xj5 hS hp S.length (Nat.le_refl _),xgp (Nat.le_refl _),if_pos (by omega),show min p.2 1099511627776=p.2 by omega]
end Go.Sim.M
end
noncomputable section
namespace Go.Sim.M
open Go.RowKit Go.Sim.Srt
structure VS (S:List Per):Prop where
 ne:0<S.length
 zero:pos S 0=0
 step:∀ i,i<S.length→pos S i<pos S (i+1)∧pos S (i+1)≤1099511627776
theorem VS.mono {S:List Per} (h:VS S):∀ d i,i+d≤S.length→pos S i≤pos S (i+d)
 | 0,i,_=>Int.le_refl _
 | d+1,i,hi=>by
  have a:=h.mono d i (by omega)
  have b:=h.step (i+d) (by omega)
  have e:i+(d+1)=i+d+1:=by omega
  rw [e];omega
theorem VS.le {S:List Per} (h:VS S) {i k:Nat} (hik:i≤k) (hk:k≤S.length):pos S i≤pos S k:=by
 have:=h.mono (k - i) i (by omega)
 rwa [show i+(k - i)=k by omega] at this
theorem VS.nonneg {S:List Per} (h:VS S) {i:Nat} (hi:i≤S.length):0≤pos S i:=by
 have:=h.le (Nat.zero_le i) hi
 rw [h.zero] at this;exact this
theorem VS.pv {S:List Per} (h:VS S) {k:Nat} (hk:k<S.length):pv (pos S k,pos S (k+1))=true:=by
 have a:=h.step k hk
 have b:=h.nonneg (i:=k) (by omega)
 exact xar.2 ⟨b,a.1,a.2⟩
theorem VS.find {S:List Per} (h:VS S) {t:Int} (h0:0≤t) (h1:t<1099511627776):∃ k,k<S.length∧pos S k≤t∧t<pos S (k+1):=by
 have key:∀ d i,i+d=S.length→pos S i≤t→∃ k,k<S.length∧pos S k≤t∧t<pos S (k+1):=by
  intro d
  induction d with
  | zero=>intro i hi hp;rw [xgp (by omega)] at hp;omega
  | succ d ih =>
   intro i hi hp
   by_cases hq:t<pos S (i+1)
   · exact ⟨i,by omega,hp,hq⟩
   · exact ih (i+1) (by omega) (by omega)
 exact key S.length 0 (by omega) (by rw [h.zero];exact h0)
def cutOk (S:List Per) (p:Per) (k:Nat):Bool:=pv p&&(decide (p.1<pos S (k+1))&&decide (pos S k<p.2))
theorem xiX {S:List Per} {p:Per} {k:Nat}:cutOk S p k=true↔pv p=true∧p.1<pos S (k+1)∧pos S k<p.2:=by
 simp [cutOk]
def cutF (S:List Per) (p:Per) (k:Nat):Int:=max p.1 (pos S k)
def cutT (S:List Per) (p:Per) (k:Nat):Int:=min p.2 (pos S (k+1))
def lev (S:List Per) (k:Nat):Int:=match S[k]? with
 | some s=>s.2
 | none=>0
theorem xmU {S:List Per} {k:Nat} (h:k<S.length):lev S k=S[k].2:=by unfold lev;rw [List.getElem?_eq_getElem h]
def itgW (S:List Per) (p:Per):Nat→Int
 | 0=>0
 | k+1=>if cutOk S p k=true then IntKind.i64.wrap (itgW S p k+IntKind.i64.wrap (lev S k*IntKind.i64.wrap (cutT S p k - cutF S p k))) else itgW S p k
theorem xol (f:Per) {x y:Int} (h0:0≤x) (h:x≤y) (h1:y≤1099511627776):0≤ovl f x y∧ovl f x y≤1099511627776:=by
 unfold ovl;split<;>(try split)<;>omega
theorem xk8 {x y:Int} (h0:0≤x) (h:x≤y) (h1:y≤1099511627776):∀ l:List Per,0≤ovs l x y∧ovs l x y≤1099511627776*l.length
 | []=>by simp [ovs]
 | f::l=>by
  have ih:=xk8 h0 h h1 l
  have a:=xol f h0 h h1
  have e:ovs (f::l) x y=ovl f x y+ovs l x y:=by simp [ovs]
  rw [e,List.length_cons,Int.natCast_succ,Int.mul_add,Int.mul_one]
  omega
theorem StepI.vs {N:Int→Nat} {S:List Per} (hS:StepI (fun t=>(N t:Int)) 1099511627776 S):VS S:=by
 have h0:=xkd hS
 refine ⟨?_,h0,fun i hi=>?_⟩
 · rcases Nat.eq_zero_or_pos S.length with h|h
   · rw [xgp (by omega)] at h0;omega
   · exact h
 · obtain ⟨_,a,b,_⟩:=xhq hS hi
   exact ⟨a,b⟩
theorem xj4 {l:List Per} {S:List Per} (hl:l.length≤24) (hS:StepI (fun t=>((l.countP (hasP · t):Nat):Int)) 1099511627776 S) {p:Per} (hp:pv p=true):∀ k,k≤S.length→itgW S p k=itg S p k
 | 0,_=>rfl
 | k+1,hk=>by
  have hlt:k<S.length:=by omega
  have b:=xar.1 hp
  have ih:=xj4 hl hS hp k (by omega)
  obtain ⟨q1,q2,q3,q4,_⟩:=xhq (N:=fun t=>l.countP (hasP · t)) hS hlt
  have hc:l.countP (hasP · S[k].1)≤24:=Nat.le_trans List.countP_le_length hl
  have e0:=xj5 hS hp k (by omega)
  have hb:0≤itg S p k∧itg S p k≤26388279066624:=by
   rw [e0]
   split
   · have:=xk8 (x:=p.1) (y:=min p.2 (pos S k)) (by omega) (by omega) (by omega) l
     have h2:(1099511627776:Int)*l.length≤1099511627776*24:=by omega
     omega
   · omega
  unfold itgW itg
  rw [ih,List.getElem?_eq_getElem hlt,xmU hlt]
  dsimp only
  by_cases h1:max p.1 (pos S k)<min p.2 (pos S (k+1))
  · have hok:cutOk S p k=true:=xiX.2 ⟨hp,by omega,by omega⟩
    rw [if_pos hok,if_pos h1]
    unfold cutT cutF
    rw [xb5 (n:=min p.2 (pos S (k+1)) - max p.1 (pos S k)) (by omega) (by omega)]
    have hd:0≤min p.2 (pos S (k+1)) - max p.1 (pos S k)∧min p.2 (pos S (k+1)) - max p.1 (pos S k)≤1099511627776:=by omega
    generalize min p.2 (pos S (k+1)) - max p.1 (pos S k)=d at hd
    rw [q4]
    have hm:0≤((l.countP (hasP · S[k].1):Nat):Int)*d∧((l.countP (hasP · S[k].1):Nat):Int)*d≤24*1099511627776 :=
     ⟨Int.mul_nonneg (by omega) hd.1,Int.mul_le_mul (by omega) hd.2 hd.1 (by omega)⟩
    generalize ((l.countP (hasP · S[k].1):Nat):Int)*d=m at hm
    rw [xb5 (n:=m) (by omega) (by omega),xb5 (by omega) (by omega)]
  · have hok:cutOk S p k=false:=by
     cases hc:cutOk S p k with
     | false=>rfl
     | true=>obtain ⟨_,a,b'⟩:=xiX.1 hc;omega
    rw [hok,if_neg h1]
    simp
theorem xj3 {S:List Per} {p:Per} (hp:pv p=false):∀ k,itgW S p k=0
 | 0=>rfl
 | k+1=>by
  have:cutOk S p k=false:=by simp [cutOk,hp]
  unfold itgW
  rw [this,xj3 hp k];simp
structure PkI (S:List Per) (p:Per) (T:Int) (s:Int×Int):Prop where
 in1:p.1≤s.2
 in2:s.2<p.2
 val:∃ k,k<S.length∧pos S k≤s.2∧s.2<pos S (k+1)∧lev S k=s.1
 most:∀ k t,k<S.length→pos S k≤t→t<pos S (k+1)→p.1≤t→t<p.2→t<T→lev S k≤s.1∧(lev S k=s.1→s.2≤t)
end Go.Sim.M
end
noncomputable section
set_option maxRecDepth 100000
namespace Go.Sim.M
open Go.RowKit Go.Sim.Srt
def isc (p q:Per):Bool:=pv p&&(pv q&&(decide (p.1<q.2)&&decide (q.1<p.2)))
theorem xoN (p q:Per):xae p.1 p.2 q.1 q.2=if isc p q=true then (max p.1 q.1,min p.2 q.2,true) else (0,0,false):=by
 have e:xa9 p.1 p.2 q.1 q.2=isc p q:=by
  unfold xa9 isc
  rw [xgr p,xgr q]
  cases pv p<;>cases pv q<;>cases decide (p.1<q.2)<;>rfl
 unfold xae
 rw [e]
 cases isc p q
 · rfl
 · have e1:(if q.1>p.1 then q.1 else p.1)=max p.1 q.1:=by split<;>omega
   have e2:(if q.2<p.2 then q.2 else p.2)=min p.2 q.2:=by split<;>omega
   rw [e1,e2];rfl
theorem xoP (p q:Per):xao p.1 p.2 q.1 q.2=if isc p q=true then (max p.1 q.1,min p.2 q.2,true) else (0,0,false):=by
 have e:xbj p.1 p.2 q.1 q.2=isc p q:=by
  unfold xbj isc
  rw [xjk p,xjk q]
  cases pv p<;>cases pv q<;>cases decide (p.1<q.2)<;>rfl
 unfold xao
 rw [e]
 cases isc p q
 · rfl
 · have e1:(if q.1>p.1 then q.1 else p.1)=max p.1 q.1:=by split<;>omega
   have e2:(if q.2<p.2 then q.2 else p.2)=min p.2 q.2:=by split<;>omega
   rw [e1,e2];rfl
def pie (S:List Per) (k:Nat):Per:=(pos S k,pos S (k+1))
theorem xn7 {S:List Per} (h:VS S) {k:Nat} (hk:k<S.length) (p:Per):isc p (pie S k)=cutOk S p k:=by
 unfold isc cutOk pie
 rw [h.pv hk,Bool.true_and]
theorem xoq {S:List Per} (h:VS S) {k:Nat} (hk:k<S.length) (p:Per):xae p.1 p.2 (pos S k) (pos S (k+1))=if cutOk S p k=true then (cutF S p k,cutT S p k,true) else (0,0,false):=by
 have:=xoN p (pie S k)
 rw [xn7 h hk] at this
 exact this
theorem xkc {S:List Per} {k:Nat} (hk:k<S.length):(((S.map encP).getD k .top).cells.getD 0 .top).toInt=pos S k:=by
 rw [xb2 _ _ _ hk,cP0,xgq hk]
theorem xmT {S:List Per} {k:Nat} (hk:k<S.length):(((S.map encP).getD k .top).cells.getD 1 .top).toInt=lev S k:=by
 rw [xb2 _ _ _ hk,cP1,xmU hk]
theorem xnb {S:List Per} {k:Nat} (hk:k<S.length):(((S.map encP).getD k .top).cells.length==2&&hasShs [Sh.int .i64,Sh.int .i64] ((S.map encP).getD k .top).cells 0)=true:=by
 rw [xb2 _ _ _ hk];rfl
theorem xoQ {S:List Per} {k:Nat} (hk:k<S.length):hasSh1 (Sh.int .i64) (((S.map encP).getD k .top).cells.getD 0 .top)=true:=by
 rw [xb2 _ _ _ hk];rfl
theorem xlw {S:List Per} (h:VS S) (hl:S.length≤1048576) (p:Per):Iter (xac (S.map encP) (S.map encP) ((S.length:Nat):Int)) ((0:Int),(0:Int),p.1,p.2)=some (itgW S p S.length):=by
 refine xhl (fun k=>((k:Int),itgW S p k,p.1,p.2)) S.length (itgW S p S.length) (fun k hk=>?_) ?_ S.length 0 (by omega)
 · have i1:(k:Int)<(S.length:Int):=by omega
   have hi:=xoq h hk p
   have hs:itgW S p (k+1)=if cutOk S p k=true then xdm (cutF S p k) (cutT S p k) (lev S k) (itgW S p k) else itgW S p k:=rfl
   by_cases hk1:k+1<S.length
   · have i2:((k+1:Nat):Int)<(S.length:Int):=by omega
     simp only [xac,xaH,xbk,xbl,xbm,List.length_map,xaZ,xaY,decide_true,decide_false,Bool.and_true,Bool.true_and,Bool.not_true,Bool.not_false,Int.toNat_natCast,Int.natCast_nonneg,Option.isSome_some,Option.getD_some,beq_self_eq_true,Nat.zero_add,Nat.sub_zero,hk,hk1,i1,i2,xkc hk,xkc hk1,xmT hk,xnb hk,xoQ hk1,wrapS (n:=k) (by omega),hi]
     cases hc:cutOk S p k<;>simp [hs,hc,xaZ,xaY]
   · have i2:¬ ((k+1:Nat):Int)<(S.length:Int):=by omega
     have e1:pos S (k+1)=1099511627776:=xgp (by omega)
     rw [e1] at hi
     simp only [xac,xaH,xbk,xbl,xbm,List.length_map,xaZ,xaY,decide_true,decide_false,Bool.and_true,Bool.true_and,Bool.not_true,Bool.not_false,Int.toNat_natCast,Int.natCast_nonneg,Option.isSome_some,Option.getD_some,beq_self_eq_true,Nat.zero_add,Nat.sub_zero,hk,i1,i2,xkc hk,xmT hk,xnb hk,wrapS (n:=k) (by omega),hi]
     cases hc:cutOk S p k<;>simp [hs,hc,xaZ,xaY]
 · simp only [xac,xaH,Int.lt_irrefl,decide_false,xaY]
theorem xkB {S:List Per} (h:VS S) (hl:S.length≤1048576) (p:Per):xaI (S.map encP) p.1 p.2=some (itgW S p S.length):=by
 have e:xaJ (S.map encP) p.1 p.2 0=some (itgW S p S.length):=by
  unfold xaJ xbV
  simp only [List.length_map,xlw h hl p,Option.isSome_some,Option.getD_some,xaZ]
 unfold xaI xbD
 simp only [e,Option.isSome_some,Option.getD_some,xaZ]
end Go.Sim.M
end
noncomputable section
set_option maxRecDepth 100000
namespace Go.Sim.M
open Go.RowKit Go.Sim.Srt
def onesF (l:List Fc):List Cnt:=l.map fun f=>(f.p,(1:Int))
theorem xlL {l:List Fc} (h:l.length≤262144):Tame (onesF l):=⟨by simpa [onesF] using h,fun c hc=>by
 obtain ⟨f,_,rfl⟩:=List.mem_map.1 hc
 dsimp only;omega⟩
theorem xmY (l:List Fc) (t:Int):sumC (onesF l) t=(((l.map (·.p)).countP (hasP · t):Nat):Int):=by
 have:=xnc (l.map (·.p)) t
 rw [List.map_map] at this
 exact this
theorem xeA (l:List Fc) (hl:l.length≤1048576):Iter (xag (l.map encF) ((l.length:Nat):Int)) ((0:Nat),(0:Int),[])=some ((l.flatMap (fun (f:Fc)=>[(f.p,(1:Int))])).length,(l.flatMap (fun (f:Fc)=>[(f.p,(1:Int))])).map encC):=by
 refine xj2 l (fun (f:Fc)=>[(f.p,(1:Int))]) encC 1 (fun f hf=>?_) (fun n h D hD=>?_) (fun D=>?_)
 · simp
 · have h1:(n:Int)<(l.length:Int):=by omega
   have m1:(D.length+1)*24≤140737488355328:=by omega
   have m2:D.length+1≤4611686018427387904:=by omega
   have gf:(l.map encF).getD n .top=encF l[n]:=xb2 _ _ _ h
   simp only [xag,xa7,List.length_map,xaZ,xaY,decide_true,decide_false,Bool.and_true,Bool.true_and,Bool.not_true,Bool.not_false,Int.toNat_natCast,Int.natCast_nonneg,Option.isSome_some,Option.getD_some,beq_self_eq_true,Nat.zero_add,Nat.sub_zero,h,h1,gf,cF0,cF1,cF2,sF0,sF1,sF2,lF,sF12,sF02,m1,m2,wrapS (n:=n) (by omega)]
   simp [encC]
 · simp only [xag,xa7,List.length_map,Int.lt_irrefl,decide_false,xaY]
theorem xnn (l:List Fc) (hl:l.length≤1048576):xaR (l.map encF)=xcL ((onesF l).map encC):=by
 have h:=xeA l hl
 rw [flat1] at h
 unfold xaR xb6 xcB xcC xcD xcE onesF
 rw [List.length_map,h]
 simp only [List.drop_zero,List.take_of_length_le,Nat.zero_add,List.length_map,Nat.le_refl,decide_true,Bool.and_true,xaZ,Option.isSome_some,Option.getD_some,xmF]
theorem xn8 {f p:Per} (hp:pv p=true):(if isc f p=true then min f.2 p.2 - max f.1 p.1 else 0)=ovl f p.1 p.2:=by
 have b:=xar.1 hp
 unfold isc ovl
 cases hf:pv f with
 | false=>simp
 | true =>
  have a:=xar.1 hf
  rw [hp]
  by_cases h1:f.1<p.2<;>by_cases h2:p.1<f.2<;>simp [h1,h2]<;>omega
def tot (l:List Fc) (p:Per):Int:=(l.map fun f=>if isc f.p p=true then min f.p.2 p.2 - max f.p.1 p.1 else 0).sum
theorem xnM (l:List Fc) (f:Fc) (p:Per):tot (l++[f]) p=tot l p+(if isc f.p p=true then min f.p.2 p.2 - max f.p.1 p.1 else 0):=by simp [tot]
theorem xlh (f p:Per):0≤(if isc f p=true then min f.2 p.2 - max f.1 p.1 else 0)∧(if isc f p=true then min f.2 p.2 - max f.1 p.1 else 0)≤1099511627776:=by
 split
 · rename_i h
   simp only [isc,Bool.and_eq_true,decide_eq_true_eq] at h
   obtain ⟨h1,h2,h3,h4⟩:=h
   have:=xar.1 h1
   have:=xar.1 h2
   omega
 · omega
theorem xlg (p:Per):∀ l:List Fc,0≤tot l p∧tot l p≤1099511627776*l.length
 | []=>by simp [tot]
 | f::l=>by
  have ih:=xlg p l
  have h1:=xlh f.p p
  have e:tot (f::l) p=(if isc f.p p=true then min f.p.2 p.2 - max f.p.1 p.1 else 0)+tot l p:=by simp [tot]
  rw [e,List.length_cons,Int.natCast_succ,Int.mul_add,Int.mul_one]
  omega
theorem xli {p:Per} (hp:pv p=true):∀ l:List Fc,tot l p=ovs (l.map (·.p)) p.1 p.2
 | []=>rfl
 | f::l=>by
  have ih:=xli hp l
  have e1:tot (f::l) p=(if isc f.p p=true then min f.p.2 p.2 - max f.p.1 p.1 else 0)+tot l p:=by simp [tot]
  have e2:ovs ((f::l).map (·.p)) p.1 p.2=ovl f.p p.1 p.2+ovs (l.map (·.p)) p.1 p.2:=by simp [ovs]
  rw [e1,e2,ih,xn8 hp]
theorem xlf {p:Per} (hp:pv p=false):∀ l:List Fc,tot l p=0
 | []=>rfl
 | f::l=>by
  have ih:=xlf hp l
  have e1:tot (f::l) p=(if isc f.p p=true then min f.p.2 p.2 - max f.p.1 p.1 else 0)+tot l p:=by simp [tot]
  have e2:isc f.p p=false:=by simp [isc,hp]
  rw [e1,ih,e2];simp
theorem xkR (l:List Fc) (hl:l.length≤24) (p:Per):Iter (xaa (l.map encF)) ((0:Int),(0:Int),p.1,p.2)=some (tot l p,p.1,p.2):=by
 refine xhl (fun k=>(tot (l.take k) p,(k:Int),p.1,p.2)) l.length (tot l p,p.1,p.2) (fun k hk=>?_) ?_ l.length 0 (by omega)
 · have i1:(k:Int)<(l.length:Int):=by omega
   have gf:(l.map encF).getD k .top=encF l[k]:=xb2 _ _ _ hk
   have hi:=xoP l[k].p p
   have hb:=xlg p (l.take k)
   have hbl:(l.take k).length≤24:=by rw [List.length_take];omega
   have h1:=xlh l[k].p p
   have hs:tot (l.take (k+1)) p=tot (l.take k) p+(if isc l[k].p p=true then min l[k].p.2 p.2 - max l[k].p.1 p.1 else 0):=by
    rw [List.take_add_one,List.getElem?_eq_getElem hk]
    exact xnM _ _ _
   simp only [xaa,xaB,List.length_map,xaZ,xaY,decide_true,decide_false,Bool.and_true,Bool.true_and,Bool.not_true,Bool.not_false,Int.toNat_natCast,Int.natCast_nonneg,Option.isSome_some,Option.getD_some,beq_self_eq_true,Nat.zero_add,Nat.sub_zero,hk,i1,gf,cF0,cF1,cF2,sF0,sF1,sF2,lF,sF12,sF02,wrapS (n:=k) (by omega),hi]
   generalize tot (l.take k) p=T at hs hb
   have hb2:T≤26388279066624:=by omega
   cases hc:isc l[k].p p with
   | false=>rw [hc] at hs;simp at hs;simp [hs,xaY]
   | true =>
    simp only [isc,Bool.and_eq_true,decide_eq_true_eq] at hc
    obtain ⟨g1,g2,g3,g4⟩:=hc
    have a1:=xar.1 g1
    have a2:=xar.1 g2
    have hc:isc l[k].p p=true:=by simp only [isc,Bool.and_eq_true,decide_eq_true_eq];exact ⟨g1,g2,g3,g4⟩
    rw [hc,if_pos rfl] at hs
    simp only [if_true,xaZ]
    rw [xb5 (n:=T+min l[k].p.2 p.2) (by omega) (by omega),xb5 (by omega) (by omega),hs]
    congr 3
    omega
 · simp only [xaa,xaB,List.length_map,Int.lt_irrefl,decide_false,xaY,List.take_length]
theorem xlF (l:List Fc) (p:Per):xat (l.map encF) p.1 p.2=some true:=by
 unfold xat xbg
 by_cases h1:(l.length:Int)>24
 · simp [h1,xaZ]
 have hl:l.length≤24:=by omega
 have e:=xkR l hl p
 obtain ⟨A,a1,a2,a3⟩:=xfG _ (xlL (l:=l) (by omega))
 have hol:(onesF l).length=l.length:=by simp [onesF]
 have c1:=xnn l (by omega)
 rw [a1] at c1
 have hS:StepI (fun t=>(((l.map (·.p)).countP (hasP · t):Nat):Int)) 1099511627776 A:=by
  rwa [show sumC (onesF l)=fun t=>(((l.map (·.p)).countP (hasP · t):Nat):Int) from funext fun t=>xmY l t] at a2
 have d:=xkB (hS.vs (N:=fun t=>(l.map (·.p)).countP (hasP · t))) (by omega) p
 have key:itgW A p A.length=tot l p:=by
  cases hp:pv p with
  | false=>rw [xj3 hp,xlf hp]
  | true=>rw [xj4 (by simpa using hl) hS hp A.length (Nat.le_refl _),xn9 hS hp,xli hp]
 rw [key] at d
 simp [xbK,xbL,xbM,h1,e,c1,d,xaZ,xaY]
end Go.Sim.M
end
noncomputable section
namespace Go.Sim
theorem M.card_totals (l:List M.Fc) (p:M.Per) (w0:l.length≤maxLen∧∀ y,y∈l→y.wf) (w1:M.PerWf p):M.xat (l.map M.encF) p.1 p.2=some true:=M.xlF l p
end Go.Sim
end
noncomputable section
set_option maxRecDepth 10000
namespace Go.Proofs.YtoemghmemdnelaaGreatDoor.aggregateTotals
open Go.ChangeShapes Go.WideShapes Go.ChangeAt Go.RowKit Go.Sim
theorem contract (H:Type) (enc:TypeId×Value→H) (W:World) (base:Nat) (args:Array Value) (ds gs:List (DataW H)) (before:List MemPlace)
  (hval:∀ (j:Nat) t v,Tryz.f8.params[j]?=some t→args[j]?=some v→Value.okWide Tryz.prog W .any base t v)
  (hW:DataW.Whole enc Tryz.prog Tryz.f8.params.toList Rows.aggregateTotalsSpec.vars false W args.toList ds gs before) (hL:laidMetH Tryz.prog Rows.aggregateTotalsRow.laid W) (hsh:W.ShapedOpen Tryz.prog) :
  Calls Tryz.prog 8 args W fun e W'=>∃ v,e=.returned v∧Rows.aggregateTotalsSpec.post enc Tryz.prog Tryz.f8 false true false false W args v W':=by
 have hW':=hW
 obtain ⟨p,q,hA0,hV,rfl,hfz,hnd⟩:=hW
 have hA:DataW.TrodAll enc Tryz.prog W 0 (fun _=>true) true Tryz.f8.params.toList args.toList ds p:=hA0
 have hAk:=hA
 rw [Tryz.params8] at hA hval
 obtain ⟨v0,vs0,d0,ds0,p0,q0,hargs,rfl,rfl,h0,r0⟩:=trodAll_cons hA
 obtain ⟨v1,vs1,d1,ds1,p1,q1,rfl,rfl,rfl,h1,r1⟩:=trodAll_cons r0
 obtain ⟨rfl,rfl,rfl⟩:=trodAll_nil r1
 obtain rfl:args=#[v0,v1]:=by cases args;simp_all
 obtain ⟨rfl,rfl⟩:=trodVars_none hV
 obtain ⟨a0,rr0,b0,w0⟩:=xlM (hval 0 23 v0 rfl rfl) h0
 obtain ⟨a1,rr1,b1,w1⟩:=xnA (hval 1 35 v1 rfl rfl) h1
 clear hA0
 have hI:ITryz W:=xoK rfl (by kernel_rfl) hL hsh
 have hpl:=M.card_totals a0 a1 w0 w1
 have hg:Sim.Good Tryz.prog ITryz 8 [.list 3 (a0.map M.encF),(.agg [.int .i64 a1.1,.int .i64 a1.2])] (.bool true):=M.xeC _ _ (by
  show some (_,AV.bool _)=_
  rw [hpl];rfl)
 have hrc:RC W (fun _=>False) noBox [v0,v1] [.list 3 (a0.map M.encF),(.agg [.int .i64 a1.1,.int .i64 a1.2])]:=by
  refine ⟨rfl,fun i hi=>?_⟩
  match i,hi with
  | 0,_=>exact rr0
  | 1,_=>exact rr1
 refine (hg.2 W (fun _=>False) _ hI (fun _ h=>h.elim) hrc).mono fun e W' ⟨v,he,hb,hr⟩=>?_
 subst he
 obtain rfl:=hr.bool_inv
 exact ⟨_,rfl,xm1 rfl hW' ⟨rfl,rfl,rfl⟩ rfl Tryz.underlying4 (by simpa using xfQ laidTryz hb (by kernel_rfl) hAk) hb⟩
noncomputable def wit:Array Value:=#[.slice none 0 0,.agg #[.int .i64 0,.int .i64 0]]
theorem laid_met (os:Os):laidMet Tryz.prog Rows.aggregateTotalsRow.laid ((laidWorld Tryz.prog Rows.aggregateTotalsRow.laid os).forCall (fun _ _=>0) ⟨#[],wit,[]⟩).memory :=
 laidMet_of_run3 8 (by kernel_rfl) (by kernel_rfl) (by kernel_rfl)
theorem reads (os:Os) {H:Type} (enc:TypeId×Value→H):∃ places,DataW.whole enc Tryz.prog ((laidWorld Tryz.prog Rows.aggregateTotalsRow.laid os).forCall (fun _ _=>0) ⟨#[],wit,[]⟩).memory Tryz.f8.params.toList Rows.aggregateTotalsSpec.vars false wit.toList 8=some ([.nil,.agg [.lit (.int .i64 0),.lit (.int .i64 0)]],[],places) :=
 ⟨[],by kernel_rfl⟩
set_option maxRecDepth 100000 in
theorem lifted (os:Os) (started:os.Started) (H:Type) (enc:TypeId×Value→H) (F:Stop.Interp) :
  ReturnsInHanded {} Tryz.checked os 8 .any ((OpenSpec.ofChange Rows.aggregateTotalsSpec).preRow enc Tryz.prog Tryz.f8 Rows.aggregateTotalsRow.domain false Rows.aggregateTotalsRow.laid) (((OpenSpec.ofChange Rows.aggregateTotalsSpec).at F).post enc Tryz.prog Tryz.f8 false true false false):=by
 obtain ⟨places,hx⟩:=reads os enc
 refine returnsInHanded_of_row (C:=Tryz.checked) (s:=OpenSpec.ofChange Rows.aggregateTotalsSpec) ownTryz started (by kernel_rfl) Tryz.func8
  (witness_row_at (enc:=enc) (C:=Tryz.checked) false (laidWorld Tryz.prog Rows.aggregateTotalsRow.laid os) wit rfl (by kernel_rfl) (by kernel_rfl) (by kernel_rfl)
   (OpenSpec.preRow_of_cond 8 hx (by kernel_rfl) (fun k hk=>by cases hk) (by kernel_rfl) (laid_met os))) ?_
 intro W base args ds gs before hval hW _ _ _ hL hsh _
 exact contract H enc W base args ds gs before hval hW hL hsh
theorem said:Rows.AggregateTotalsSaid :=
 OpenClaim.holds_of_cond 8 Tryz.f8 rfl rfl rfl rfl rfl rfl rfl ⟨rfl,rfl,rfl,rfl,rfl⟩ rfl rfl rfl rfl rfl (by kernel_rfl) Tryz.func8 (by kernel_rfl)
  (of_decide_eq_true (by kernel_rfl)) (by unfold Func.isWrapper;first|(rw [if_pos (by decide +kernel)];kernel_rfl)|(rw [if_neg (by decide +kernel)];exact ⟨rfl,rfl⟩))
  (fun os started H enc _ F=>by rw [OpenClaim.pre_eq_preRow];exact lifted os started H enc F)
theorem plain (f:FuncId) (fn:Func) (hf:Tryz.pinned.checked.prog.funcNamed "bitemporal/bitemporallaw26.AggregateTotals" = some f) (hfn:Tryz.pinned.checked.prog.funcs[f]?=some fn) :
  false=Tryz.pinned.checked.prog.looks []∧∀ (j:Nat) t,fn.params[j]?=some t→Tryz.pinned.checked.prog.wantsStandIn t=false:=by
 obtain rfl:f=8:=Option.some.inj ((show Tryz.prog.funcNamed "bitemporal/bitemporallaw26.AggregateTotals" = some 8 by kernel_rfl).symm.trans hf) |>.symm
 obtain rfl:fn=Tryz.f8:=(Option.some.inj (Tryz.func8.symm.trans hfn)).symm
 refine ⟨by kernel_rfl,fun j t ht=>?_⟩
 rw [Tryz.params8] at ht
 have hm:=Array.mem_of_getElem? ht
 have:([23,35]:List Nat).all (fun t=>!(Tryz.prog.wantsStandIn t))=true:=by kernel_rfl
 have:=List.all_eq_true.1 this t (by simpa using hm)
 show Tryz.prog.wantsStandIn t=false
 simpa using this
theorem card:Rows.AggregateTotalsCardSaid :=
 Claim7.holds_tied_plain_at .later [] _ _ _ _ said (fun _ h=>by cases h) (by kernel_rfl) (fun _ h=>by cases h) aggregateTotals_row_tie rfl ⟨rfl,rfl⟩ (by kernel_rfl) rfl plain (by kernel_rfl)
end Go.Proofs.YtoemghmemdnelaaGreatDoor.aggregateTotals
end
