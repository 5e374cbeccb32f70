/- Part 16 of the proof: DoorF, PlX, PlU, PlC, StB, SrA, PlS, PlE, PlPt, PlA, PlCo, PlZC, CardConstant. -/
import Derived.Test.YtefloaolddjnhaaGreatDoorQC15
import Derived.Test.YtefloaolddjnhaaGreatDoorCards
import Derived.Test.YtefloaolddjnhaaGreatDoorTie
import Derived.ChangeMaps5
import Derived.Deep.DeepHandedRow
import Derived.Stop.LaidErr
import Derived.Deep.DeepLaidRun
set_option linter.unusedVariables false
set_option linter.unusedSimpArgs false
set_option linter.unnecessarySimpa false
set_option linter.unusedSectionVars false
noncomputable section
set_option maxRecDepth 10000
namespace Go.Sim
open Go.RowKit Go.Proofs Go.ChangeShapes Go.WideShapes Go.ChangeAt
theorem xqh {P:Program} {w:World} (h:w.ShapedOpen P) (hg:P.globals.size<P.low):P.low≤w.heap.size:=by
 obtain ⟨o,o₀,h1,_,_⟩:=h.2 (P.low - 1) (by omega) (by unfold Program.low at hg ⊢;omega)
 rcases Nat.lt_or_ge (P.low - 1) w.heap.size with h'|h'
 · omega
 · rw [Array.getElem?_eq_none h'] at h1;simp at h1
def cellsOfData:DataW Unit→List Value
 | .lit (.int k n)=>[.int k n]
 | .agg l=>l.flatMap fun d=>match d with
  | .lit (.int k n)=>[.int k n]
  | .agg l'=>l'.flatMap fun d'=>match d' with
   | .lit (.int k n)=>[.int k n]
   | _=>[]
  | _=>[]
 | _=>[]
noncomputable def laidHeap (P:Program):List (String×DataW Unit)→Array Obj→Array Obj
 | [],h=>h
 | x::r,h=>laidHeap P r (match P.globalNamed x.1 with
  | some g=>h.modify g fun o=>match o with
   | .cells _ t frozen=>.cells (cellsOfData x.2).toArray t frozen
   | o=>o
  | none=>h)
noncomputable def laidWorld (P:Program) (laid:List (String×DataW Unit)) (os:Os):World :=
 { World.holding P os ⟨#[],#[],[]⟩ with heap:=laidHeap P laid (World.holding P os ⟨#[],#[],[]⟩).heap }
theorem xuV {H:Type} {enc:TypeId×Value→H} {P:Program} {f:Func} {s:ChangeSpec} {W W':World} {args:Array Value} {ds:List (DataW H)} {before:List MemPlace} {tb:TypeId} (hs:s.vars=[])
  (hW:DataW.Whole enc P f.params.toList s.vars false W args.toList ds [] before) (hfn:(s.fn H ds).results=[.lit (.bool true)]∧(s.fn H ds).args=ds∧(s.fn H ds).vars=[]) (hrt:f.resultTypes=#[tb]) (htb:P.underlying tb=some .bool)
  (hargs:DataW.TrodAll enc P W' 0 (fun b=>decide (b<W.heap.size)) true f.params.toList args.toList ds before) (hb:Below W.heap.size W W'):s.post enc P f false true false false W args (.bool true) W':=by
 refine ⟨ds,[],before,[],before,[],hW,?_,?_,?_,hb.frame _,fun h=>by simp at h⟩
 · simp only [List.append_nil,hfn.1,hrt]
   exact trodAll_cons_mk (shut_bool htb _) trodAll_mk0
 · simpa [hfn.2.1] using hargs
 · simp only [List.append_nil,hfn.2.2,hs];rfl
theorem xlN {H:Type} {enc:TypeId×Value→H} {P:Program} {W W':World} (hl:laidOutB P=true) (hb:Below W.heap.size W W'):∀ {ts:List TypeId} {vs:List Value} {ds:List (DataW H)} {ps:List MemPlace},(ts.all fun t=>P.readableRec t&&decide (t<P.types.size))=true →
  DataW.TrodAll enc P W 0 (fun _=>true) true ts vs ds ps→DataW.TrodAll enc P W' 0 (fun b=>decide (b<W.heap.size)) true ts vs ds ps
 | [],vs,ds,ps,_,h=>by
  obtain ⟨rfl,rfl,rfl⟩:=trodAll_nil h
  exact trodAll_mk0
 | t::ts,vs,ds,ps,ht,h=>by
  have hlt:=h.lt
  obtain ⟨v,vs',d,ds',p,q,rfl,rfl,rfl,hd,hr⟩:=trodAll_cons h
  simp only [List.all_cons,Bool.and_eq_true,decide_eq_true_eq] at ht
  exact trodAll_cons_mk (Below.trod hl ht.1.1 ht.1.2 hd hb fun x hx=>hlt x (by simp [hx])) (xlN hl hb ht.2 hr)
section
variable {H : Type} {enc : TypeId × Value → H} {P : Program} {w : World} {base b n : Nat} {sp : Nat → Bool} {held : Bool} {v : Value} {d : DataW H} {ps : List MemPlace} {t : TypeId}
theorem xpR {T:Ty} (hf:flat P n t=some [T]) (hv:v.cells=#[v]) (hd:DataW.Trod enc P w b sp held t v d ps):∃ a,Rel w (fun _=>False) noBox v a∧OfTy T a∧∀ μ:DataW H→Nat,Meas μ→a.wt≤μ d:=by
 obtain ⟨fuel,hf'⟩:=hd
 rw [hv] at hf'
 obtain ⟨ra,ha,hw⟩:=xmt n t [T] hf fuel _ _ hf'
 cases ha with
 | cons h ht r=>cases r with
  | nil=>exact ⟨_,h,ht,fun μ hμ=>by simpa [AV.wts] using hw μ hμ⟩
theorem xyH {e:TypeId} {es:List Ty} (ht:P.underlying t=some (.slice e)) (hf:flat P n t=some [.slice es]) (hval:Value.okWide P w .any base t v) (hd:DataW.Trod enc P w b sp held t v d ps):∃ a,Rel w (fun _=>False) noBox v a∧OfTy (.slice es) a∧∀ μ:DataW H→Nat,Meas μ→a.wt≤μ d:=by
 obtain ⟨x,len,cap,rfl⟩:=okWide_slice ht hval
 exact xpR hf rfl hd
theorem xy8 {k:IntKind} (ht:P.underlying t=some (.int k)) (hval:Value.okWide P w .any base t v) (hd:DataW.Trod enc P w b sp held t v d ps):∃ m,Rel w (fun _=>False) noBox v (.int k m)∧(Lit.int k m).wf=true∧∀ μ:DataW H→Nat,Meas μ→(AV.int k m).wt≤μ d:=by
 obtain ⟨m,rfl⟩:=okWide_int ht hval
 obtain ⟨a,h,hT,hB⟩:=xpR (n:=1) (T:=.int k) (by simp [flat,ht]) rfl hd
 cases hT with
 | int _ m' hw =>
  obtain rfl:m'=m:=by cases h;rfl
  exact ⟨m',h,hw,hB⟩
theorem xpO {α:Type} {e:α→AV} {wf:α→Prop} {es:List Ty} (hv:∀ x:AV,x.cells.length=es.length→x=elemOf x.cells→(∀ j,j<es.length→OfTy (es.getD j .bool) (x.cells.getD j .top))→∃ a,x=e a∧wf a) {x:AV} (h:OfTy (.slice es) x) :
  ∃ l:List α,x=.list es.length (l.map e)∧l.length≤maxLen∧∀ a,a∈l→wf a:=by
 cases h with
 | slice _ xs hn hl hx =>
  have:∀ xs:List AV,(∀ x,x∈xs→∃ a,x=e a∧wf a)→∃ l:List α,xs=l.map e∧∀ a,a∈l→wf a:=by
   intro xs
   induction xs with
   | nil=>exact fun _=>⟨[],rfl,fun a h=>by simp at h⟩
   | cons x xs ih =>
    intro h
    obtain ⟨a,rfl,ha⟩:=h x (by simp)
    obtain ⟨l,rfl,hl⟩:=ih fun y hy=>h y (by simp [hy])
    exact ⟨a::l,rfl,fun b hb=>(List.mem_cons.1 hb).elim (fun he=>he▸ha) (fun hb=>hl b hb)⟩
  obtain ⟨l,rfl,hw⟩:=this xs fun x hx'=>hv x (hl x hx').1 (hl x hx').2 (fun j hj=>hx x j hx' hj)
  exact ⟨l,rfl,by simpa using hn,hw⟩
end
end Go.Sim
namespace Go.Sim
open Go.RowKit Go.Proofs Go.ChangeShapes Go.WideShapes Go.ChangeAt Go.Proofs.YtefloaolddjnhaaGreatDoor
theorem laidTryz:laidOutB Tryz.prog=true:=by kernel_rfl
theorem ownTryz:ownKnob Tryz.prog.godebug=none:=by kernel_rfl
theorem lowTryz:Tryz.prog.globals.size<Tryz.prog.low:=of_decide_eq_true (by kernel_rfl)
noncomputable def pow10Global:Nat:=(Tryz.prog.globalNamed "internal/strconv.uint64pow10").getD 0
theorem xtW:Rows.laid_internal_strconv_uint64pow10=(Lib.tabData .u64 Lib.pow10Tab:DataW Unit):=by kernel_rfl
theorem xzO {W:World} {r:List (String×DataW Unit)} {a b:String×DataW Unit} (hl:r=[a,b,("internal/strconv.uint64pow10",Rows.laid_internal_strconv_uint64pow10)]) (hp:(r.all fun x=>x.2.handleName?.isNone)=true) (hL:laidMetH Tryz.prog r W) (hsh:W.ShapedOpen Tryz.prog):ITryz W:=by
 rw [MakeChecks.laidMetH_plain _ _ _ hp] at hL
 subst hl
 refine ⟨hsh,xqh hsh lowTryz,?_⟩
 have h:=hL.tail.tail
 rw [xtW] at h
 exact Lib.tabIs_of_head (g:=pow10Global) (t:=(Tryz.prog.globals[pow10Global]?).map (·.type) |>.getD 0) (e:=128) (n:=20) (by kernel_rfl) (by kernel_rfl) (by kernel_rfl) (by kernel_rfl) (by kernel_rfl) (by kernel_rfl) h
def tyV:List Ty:=[.int .i64,.int .i64,.str]
def tyF:List Ty:=[.slice tyV,.int .i64,.int .i64]
theorem xsN:flat Tryz.prog 9 22=some [.slice tyF]:=by kernel_rfl
def I64 (n:Int):Prop:=(Lit.int .i64 n).wf=true
def M.Fc.wf (x:M.Fc):Prop:=M.Row.wf x.r∧I64 x.p.1∧I64 x.p.2
theorem xvJ (x:AV) (hl:x.cells.length=tyV.length) (he:x=elemOf x.cells) (hx:∀ j,j<tyV.length→OfTy (tyV.getD j .bool) (x.cells.getD j .top)):∃ a,x=M.encV a∧M.Val.wf a:=by
 generalize x.cells=cs at *
 match cs,hl with
 | [c0,c1,c2],_ =>
  have h0:=hx 0 (by decide)
  have h1:=hx 1 (by decide)
  have h2:=hx 2 (by decide)
  change OfTy (.int .i64) c0 at h0
  change OfTy (.int .i64) c1 at h1
  change OfTy .str c2 at h2
  cases h0 with
  | int _ k hk=>cases h1 with
   | int _ i hi=>cases h2 with
    | str t ht=>exact ⟨⟨k,i,t⟩,he,hk,hi,ht⟩
theorem xwa {x:AV} (h:OfTy (.slice tyV) x):∃ l:M.Row,x=M.encR l∧M.Row.wf l:=by
 obtain ⟨l,rfl,h1,h2⟩:=xpO xvJ h
 exact ⟨l,rfl,h1,h2⟩
theorem xwC (x:AV) (hl:x.cells.length=tyF.length) (he:x=elemOf x.cells) (hx:∀ j,j<tyF.length→OfTy (tyF.getD j .bool) (x.cells.getD j .top)):∃ a,x=M.encF a∧M.Fc.wf a:=by
 generalize x.cells=cs at *
 match cs,hl with
 | [c0,c1,c2],_ =>
  have h0:=hx 0 (by decide)
  have h1:=hx 1 (by decide)
  have h2:=hx 2 (by decide)
  change OfTy (.slice tyV) c0 at h0
  change OfTy (.int .i64) c1 at h1
  change OfTy (.int .i64) c2 at h2
  obtain ⟨l,rfl,hw⟩:=xwa h0
  cases h1 with
  | int _ k hk=>cases h2 with
   | int _ i hi=>exact ⟨⟨l,(k,i)⟩,he,hw,hk,hi⟩
section
variable {H : Type} {enc : TypeId × Value → H} {w : World} {base b : Nat} {sp : Nat → Bool} {held : Bool} {v : Value} {d : DataW H} {ps : List MemPlace}
theorem xsB (hval:Value.okWide Tryz.prog w .any base 22 v) (hd:DataW.Trod enc Tryz.prog w b sp held 22 v d ps):∃ l:List M.Fc,Rel w (fun _=>False) noBox v (.list 3 (l.map M.encF))∧(∀ μ:DataW H→Nat,Meas μ→(AV.list 3 (l.map M.encF)).wt≤μ d)∧(l.length≤maxLen∧∀ y,y∈l→y.wf):=by
 obtain ⟨a,h,hT,hB⟩:=xyH Tryz.underlying22 xsN hval hd
 obtain ⟨l,rfl,hw⟩:=xpO (es:=tyF) xwC hT
 exact ⟨l,h,hB,hw⟩
theorem xwL (hval:Value.okWide Tryz.prog w .any base 3 v) (hd:DataW.Trod enc Tryz.prog w b sp held 3 v d ps):∃ m:Int,Rel w (fun _=>False) noBox v (.int .i64 m)∧(∀ μ:DataW H→Nat,Meas μ→(AV.int .i64 m).wt≤μ d)∧(Lit.int .i64 m).wf=true:=by
 obtain ⟨m,h1,h2,h3⟩:=xy8 Tryz.underlying3 hval hd
 exact ⟨m,h1,h3,h2⟩
end
end Go.Sim
end
noncomputable section
namespace Go.Sim.M
open Go.RowKit Go.Sim.Srt
def Strict {α:Type} (c:α→α→Int) (l:List α):Prop:=l.Pairwise fun x y=>c x y<0
theorem Cm.self {α:Type} {c:α→α→Int} (h:Cm c) (x:α):c x x=0:=by have:=h.swap x x;omega
theorem Strict.nodup {α:Type} {c:α→α→Int} (hc:Cm c) {l:List α} (h:Strict c l):l.Nodup :=
 List.Pairwise.imp (fun {x y} hxy he=>by subst he;rw [hc.self] at hxy;omega) h
theorem Strict.sorted {α:Type} {c:α→α→Int} {l:List α} (h:Strict c l):Sorted c l:=List.Pairwise.imp (fun hxy=>by omega) h
theorem xqk {α:Type} {c:α→α→Int} (hc:Cm c) (h0:∀ x y,c x y=0→x=y) {l m:List α} (hl:Strict c l) (hm:Strict c m) (h:∀ x,x∈l↔x∈m):l=m :=
 xlz hc h0 ((List.perm_ext_iff_of_nodup (hl.nodup hc) (hm.nodup hc)).2 h) hl.sorted hm.sorted
theorem xjC (x y:Int):cmpI x y=if x<y then -1 else if y<x then 1 else 0:=rfl
theorem xzW:Cm cmpI:=⟨fun x y=>by
 simp only [xjC];repeat' split
 all_goals omega,fun x y z=>by
  simp only [xjC];repeat' split
  all_goals omega⟩
theorem xvk (p q:Int) (h:cmpI p q=0):p=q:=by
 rw [xjC] at h;repeat' split at h
 all_goals omega
theorem xtH {p:Per} {l:List Per} (h:IsSpan (p::l)):IsSpan l:=⟨fun q hq=>h.1 q (by simp [hq]),(List.pairwise_cons.1 h.2).2⟩
theorem xoR:∀ {A:List Per},IsSpan A→∀ t,A.countP (hasP · t)=if inL A t=true then 1 else 0
 | [],_,t=>by simp [xm3]
 | p::A,h,t=>by
  have ih:=xoR (xtH h) t
  rw [List.countP_cons,ih,xhp]
  cases hp:hasP p t with
  | false=>simp
  | true=>rw [xmn h hp];simp
theorem xre {A:List Per} (h:IsSpan A) (h0:∀ t,inL A t=false):A=[]:=xnD h xte fun t=>by rw [h0,xm3]
theorem xuB (N:Nat):∀ n:Nat,((List.range n).map fun h=>if h<N then 1 else 0).sum=min n N
 | 0=>by simp
 | n+1=>by rw [List.range_succ,List.map_append,List.sum_append,xuB N n];simp;split<;>omega
structure IsLevs (N:Int→Nat) (P:List Per):Prop where
 sorted:Sorted cmpP P
 lev:∃ (A:Nat→List Per) (H:Nat),(∀ t,N t≤H)∧(∀ h,IsSpan (A h)∧∀ t,inL (A h) t=decide (h<N t))∧P.Perm ((List.range H).flatMap A)
theorem xln (A:Nat→List Per) (H:Nat) (h0:∀ h,H≤h→A h=[]):∀ d,(List.range (H+d)).flatMap A=(List.range H).flatMap A
 | 0=>rfl
 | d+1=>by rw [←Nat.add_assoc,List.range_succ,List.flatMap_append,xln A H h0 d,List.flatMap_cons,h0 (H+d) (by omega)];simp
theorem IsLevs.count {N:Int→Nat} {P:List Per} (h:IsLevs N P) (t:Int):P.countP (hasP · t)=N t:=by
 obtain ⟨A,H,h1,h2,h3⟩:=h.lev
 rw [h3.countP_eq,List.countP_flatMap]
 have:(List.countP (fun x=>hasP x t)∘A)=fun k=>if k<N t then 1 else 0:=funext fun k=>by
  show List.countP (hasP · t) (A k)=_
  rw [xoR (h2 k).1,(h2 k).2];simp
 rw [this,xuB]
 have:=h1 t;omega
theorem xyJ {A:List Per} {N:Int→Nat} {k:Nat} (hs:IsSpan A) (hN:∀ t,inL A t=decide (k<N t)) {p:Per} (hp:p∈A):(∀ t,p.1≤t→t<p.2→k<N t)∧N (p.1 - 1)≤k∧N p.2≤k:=by
 have hv:=xff.1 (hs.1 p hp)
 refine ⟨fun t h1 h2=>?_,?_,?_⟩
 · have:inL A t=true:=xfK.2 ⟨p,hp,hs.1 p hp,h1,h2⟩
   rw [hN] at this;simpa using this
 · have:inL A (p.1 - 1)=false:=by
    cases hc:inL A (p.1 - 1) with
    | false=>rfl
    | true =>
     obtain ⟨q,hq,hqv,h1,h2⟩:=xfK.1 hc
     have hne:p≠q:=fun e=>by subst e;omega
     rcases pairwise_mem hs.2 hp hq hne with h|h<;>omega
   rw [hN] at this;simpa using this
 · have:inL A p.2=false:=by
    cases hc:inL A p.2 with
    | false=>rfl
    | true =>
     obtain ⟨q,hq,hqv,h1,h2⟩:=xfK.1 hc
     have hne:p≠q:=fun e=>by subst e;omega
     rcases pairwise_mem hs.2 hp hq hne with h|h<;>omega
   rw [hN] at this;simpa using this
where
 pairwise_mem {l:List Per} (h:l.Pairwise fun p q=>p.2<q.1) {p q:Per} (hp:p∈l) (hq:q∈l) (hne:p≠q):p.2<q.1∨q.2<p.1:=by
  induction l with
  | nil=>simp at hp
  | cons x l ih =>
   obtain ⟨h1,h2⟩:=List.pairwise_cons.1 h
   rcases List.mem_cons.1 hp with e1|hp1
   · rcases List.mem_cons.1 hq with e2|hq1
     · exact absurd (e1.trans e2.symm) hne
     · exact .inl (e1▸h1 q hq1)
   · rcases List.mem_cons.1 hq with e2|hq1
     · exact .inr (e2▸h1 p hp1)
     · exact ih h2 hp1 hq1
def cnt (l:List Fc) (r:Row) (t:Int):Nat:=l.countP fun f=>decide (f.r=r)&&hasP f.p t
def IsRows (l:List Fc) (R:List Row):Prop:=Strict cmpR R∧∀ r,r∈R↔∃ f,f∈l∧f.r=r∧pv f.p=true
theorem xsp {l:List Fc} {r:Row} {t:Int}:0<cnt l r t↔∃ f,f∈l∧f.r=r∧hasP f.p t=true:=by
 unfold cnt
 rw [List.countP_pos_iff]
 simp
theorem xt2 {p:Per} (h:pv p=true):hasP p p.1=true:=by
 have:=xff.1 h
 exact xfs.2 ⟨h,by omega,by omega⟩
theorem xp3 {p:Per} {t:Int} (h:hasP p t=true):pv p=true:=(xfs.1 h).1
theorem xwT {l:List Fc} {r:Row}:(∃ f,f∈l∧f.r=r∧pv f.p=true)↔∃ t,0<cnt l r t:=by
 constructor
 · rintro ⟨f,h1,h2,h3⟩
   exact ⟨f.p.1,xsp.2 ⟨f,h1,h2,xt2 h3⟩⟩
 · rintro ⟨t,h⟩
   obtain ⟨f,h1,h2,h3⟩:=xsp.1 h
   exact ⟨f,h1,h2,xp3 h3⟩
def facts (R:List Row) (L:Row→List Per):List Fc:=R.flatMap fun r=>(L r).map fun p=>⟨r,p⟩
def IsBag (l B:List Fc):Prop:=∃ R L,IsRows l R∧(∀ r,r∈R→IsLevs (cnt l r) (L r))∧B=facts R L
theorem IsRows.zero {l:List Fc} {R:List Row} (h:IsRows l R) {r:Row} (hr:r∉R) (t:Int):cnt l r t=0:=by
 cases hc:cnt l r t with
 | zero=>rfl
 | succ n=>exact absurd ((h.2 r).2 (xwT.2 ⟨t,by omega⟩)) hr
def psOf (l:List Fc) (r:Row):List Per:=(l.filter fun f=>decide (f.r=r)&&pv f.p).map (·.p)
theorem xzN (l:List Fc) (r:Row) (t:Int):(psOf l r).countP (hasP · t)=cnt l r t:=by
 unfold psOf cnt
 rw [List.countP_map,List.countP_filter]
 refine List.countP_congr fun f _=>?_
 simp only [Function.comp,Bool.and_eq_true,decide_eq_true_eq]
 constructor
 · rintro ⟨h1,h2,_⟩;exact ⟨h2,h1⟩
 · rintro ⟨h1,h2⟩;exact ⟨h2,h1,xp3 h2⟩
theorem xs5 {ps:List Per} {t:Int} {k:Nat} (h1:k<ps.countP (hasP · t)) (h2:ps.countP (hasP · (t - 1))≤k):t∈ps.map (·.1):=by
 have:∃ p,p∈ps∧hasP p t=true∧hasP p (t - 1)=false:=by
  refine Classical.byContradiction fun hn=>?_
  have:ps.countP (hasP · t)≤ps.countP (hasP · (t - 1)):=List.countP_mono_left fun p hp h=>by
   cases hc:hasP p (t - 1) with
   | true=>rfl
   | false=>exact absurd ⟨p,hp,h,hc⟩ hn
  omega
 obtain ⟨p,hp,a,b⟩:=this
 obtain ⟨hv,x,y⟩:=xfs.1 a
 have:¬ p.1≤t - 1:=fun h=>by rw [xfs.2 ⟨hv,h,by omega⟩] at b;cases b
 exact List.mem_map.2 ⟨p,hp,by omega⟩
theorem xyU {ps A:List Per} {k:Nat} (hs:IsSpan A) (hN:∀ t,inL A t=decide (k<ps.countP (hasP · t))):A.length≤ps.length:=by
 have hn:(A.map (·.1)).Nodup:=by
  unfold List.Nodup
  rw [List.pairwise_map]
  refine List.Pairwise.imp_of_mem (fun {p q} hp hq h=>?_) hs.2
  have:=xff.1 (hs.1 p hp);omega
 have:(A.map (·.1)) ⊆ ps.map (·.1):=fun t ht=>by
  obtain ⟨p,hp,rfl⟩:=List.mem_map.1 ht
  obtain ⟨a,b,_⟩:=xyJ (N:=fun t=>ps.countP (hasP · t)) hs hN hp
  have hv:=xff.1 (hs.1 p hp)
  exact xs5 (a p.1 (Int.le_refl _) (by omega)) b
 have:=hn.length_le_of_subset this
 simpa using this
theorem IsLevs.len {ps P:List Per} (h:IsLevs (fun t=>ps.countP (hasP · t)) P):P.length≤ps.length*ps.length:=by
 obtain ⟨A,H,h1,h2,h3⟩:=h.lev
 have hx:P.length=((List.range ps.length).flatMap A).length:=by
  rw [h3.length_eq]
  have nil:∀ k,ps.length≤k→A k=[]:=fun k hk=>xre (h2 k).1 fun t=>by
   rw [(h2 k).2]
   have:=List.countP_le_length (p:=(hasP · t)) (l:=ps)
   simp;omega
  have nil2:∀ k,H≤k→A k=[]:=fun k hk=>xre (h2 k).1 fun t=>by
   rw [(h2 k).2];have:=h1 t;simp;omega
  rcases Nat.le_total H ps.length with hle|hle
  · have:=xln A H nil2 (ps.length - H)
    rw [show H+(ps.length - H)=ps.length by omega] at this
    rw [this]
  · have:=xln A ps.length nil (H - ps.length)
    rw [show ps.length+(H - ps.length)=H by omega] at this
    rw [this]
 rw [hx]
 have:=xjY (g:=A) (c:=ps.length) (List.range ps.length) fun k _=>xyU (h2 k).1 (h2 k).2
 simpa using this
theorem xpX {L:Row→List Per}:∀ {R:List Row} {l:List Fc},R.Nodup→(∀ r,r∈R→(L r).length≤(psOf l r).length*(psOf l r).length)→(facts R L).length≤l.length*l.length
 | [],l,_,_=>by simp [facts]
 | r::R,l,hn,h=>by
  obtain ⟨n1,n2⟩:=List.nodup_cons.1 hn
  have e:facts (r::R) L=((L r).map fun p=>(⟨r,p⟩:Fc))++facts R L:=by simp [facts]
  let l2:=l.filter fun f=>!decide (f.r=r)
  have hps:∀ r',r'∈R→psOf l2 r'=psOf l r':=fun r' hr'=>by
   have hne:r'≠r:=fun e=>n1 (e▸hr')
   unfold psOf
   simp only [l2,List.filter_filter]
   congr 1
   refine List.filter_congr fun f _=>?_
   by_cases hf:f.r=r'
   · have:¬ f.r=r:=fun e=>hne (hf▸e)
     simp [hf,hne]
   · simp [hf]
  have ih:=xpX (L:=L) (l:=l2) n2 fun r' hr'=>by rw [hps r' hr'];exact h r' (by simp [hr'])
  have h1:=h r (by simp)
  have hl:(psOf l r).length+l2.length≤l.length:=by
   unfold psOf
   rw [List.length_map]
   have:=List.length_eq_countP_add_countP (fun f:Fc=>decide (f.r=r)) (l:=l)
   have a1:(l.filter fun f=>decide (f.r=r)&&pv f.p).length≤l.countP fun f=>decide (f.r=r):=by
    rw [←List.countP_eq_length_filter]
    exact List.countP_mono_left fun f _ hf=>by simp only [Bool.and_eq_true] at hf;exact hf.1
   have a2:l2.length=l.countP fun f=>¬ decide (f.r=r)=true:=by
    rw [List.countP_eq_length_filter];simp [l2]
   omega
  rw [e,List.length_append,List.length_map]
  have m1:=Nat.mul_le_mul hl hl
  have m2:(psOf l r).length*(psOf l r).length+l2.length*l2.length≤((psOf l r).length+l2.length)*((psOf l r).length+l2.length):=by
   rw [Nat.add_mul,Nat.mul_add,Nat.mul_add];omega
  omega
theorem IsBag.len {l B:List Fc} (h:IsBag l B):B.length≤l.length*l.length:=by
 obtain ⟨R,L,h1,h2,rfl⟩:=h
 refine xpX (h1.1.nodup xww) fun r hr=>?_
 have:=h2 r hr
 rw [show cnt l r=fun t=>(psOf l r).countP (hasP · t) from funext fun t=>(xzN l r t).symm] at this
 exact this.len
end Go.Sim.M
end
noncomputable section
namespace Go.Sim.M
open Go.RowKit Go.Sim.Srt
abbrev Asc (l:List Int):Prop:=l.Pairwise fun x y=>x<y
def insI:List Int→Int→List Int
 | [],n=>[n]
 | x::l,n=>if x<n then x::insI l n else if n<x then n::x::l else x::l
theorem xjO:∀ (l:List Int) (n x:Int),x∈insI l n↔x=n∨x∈l
 | [],n,x=>by simp [insI]
 | y::l,n,x=>by
  unfold insI
  split
  · rw [List.mem_cons,xjO l n x,List.mem_cons]
    constructor<;>rintro (h|h|h)<;>simp [h]
  · split
    · simp
    · have:y=n:=by omega
      subst this;simp
theorem xlc:∀ {l:List Int},Asc l→∀ n,Asc (insI l n)
 | [],_,n=>by simp [insI,Asc]
 | y::l,h,n=>by
  obtain ⟨h1,h2⟩:=List.pairwise_cons.1 h
  unfold insI
  split
  · refine List.pairwise_cons.2 ⟨fun z hz=>?_,xlc h2 n⟩
    rcases (xjO l n z).1 hz with rfl|hz
    · assumption
    · exact h1 z hz
  · split
    · rename_i hn
      refine List.pairwise_cons.2 ⟨fun z hz=>?_,h⟩
      rcases List.mem_cons.1 hz with rfl|hz
      · exact hn
      · have:=h1 z hz;omega
    · exact h
theorem xn0:∀ (l:List Int) (n:Int),(insI l n).length≤l.length+1
 | [],n=>by simp [insI]
 | y::l,n=>by
  unfold insI
  have:=xn0 l n
  repeat' split
  all_goals simp
  all_goals omega
theorem xtt {l m:List Int} (hl:Asc l) (hm:Asc m) (h:∀ x,x∈l↔x∈m):l=m :=
 xqk xzW xvk (hl.imp fun {x y} h=>by rw [xjC,if_pos h];omega) (hm.imp fun {x y} h=>by rw [xjC,if_pos h];omega) h
structure StepI (N:Int→Int) (T:Int) (S:List Per):Prop where
 asc:S.Pairwise fun a b=>a.1<b.1
 mem:∀ s,s∈S↔0≤s.1∧s.1<T∧s.2=N s.1∧(s.1=0∨N (s.1 - 1)≠s.2)
 last:0<T→∃ S' f,S=S'++[(f,N (T - 1))]
theorem StepI.nil (N:Int→Int):StepI N 0 []:=⟨List.Pairwise.nil,fun s=>by simp;omega,fun h=>by omega⟩
def putS (S:List Per) (f n:Int):List Per:=match S.getLast? with
 | some s=>if s.2=n then S else S++[(f,n)]
 | none=>S++[(f,n)]
theorem StepI.put {N:Int→Int} {T T':Int} {S:List Per} (h:StepI N T S) (h0:0≤T) (hlt:T<T') (hc:∀ t,T≤t→t<T'→N t=N T):StepI N T' (putS S T (N T)):=by
 rcases Int.lt_or_eq_of_le h0 with hp|hz
 · obtain ⟨S',f,rfl⟩:=h.last hp
   unfold putS
   rw [List.getLast?_append]
   simp only [List.getLast?_singleton,Option.some_or]
   by_cases he:N (T - 1)=N T
   · rw [if_pos he]
     refine ⟨h.asc,fun s=>?_,fun _=>⟨S',f,by rw [he,hc (T' - 1) (by omega) (by omega)]⟩⟩
     rw [h.mem]
     constructor
     · rintro ⟨a,b,c,d⟩;exact ⟨a,by omega,c,d⟩
     · rintro ⟨a,b,c,d⟩
       refine ⟨a,?_,c,d⟩
       rcases Int.lt_or_le s.1 T with hs|hs
       · exact hs
       · exfalso
         have e1:=hc s.1 hs b
         rcases d with d|d
         · omega
         · rcases Int.lt_or_eq_of_le hs with h2|h2
           · have e2:=hc (s.1 - 1) (by omega) (by omega)
             exact d (by rw [e2,c,e1])
           · rw [←h2] at d c;exact d (by rw [he,c])
   · rw [if_neg he]
     refine ⟨?_,fun s=>?_,fun _=>⟨_,T,by rw [hc (T' - 1) (by omega) (by omega)]⟩⟩
     · rw [List.pairwise_append]
       refine ⟨h.asc,List.pairwise_singleton _ _,fun a ha b hb=>?_⟩
       simp only [List.mem_singleton] at hb
       subst hb
       exact ((h.mem a).1 ha).2.1
     · rw [List.mem_append,h.mem,List.mem_singleton]
       constructor
       · rintro (⟨a,b,c,d⟩|rfl)
         · exact ⟨a,by omega,c,d⟩
         · exact ⟨h0,hlt,rfl,.inr he⟩
       · rintro ⟨a,b,c,d⟩
         rcases Int.lt_or_le s.1 T with hs|hs
         · exact .inl ⟨a,hs,c,d⟩
         · right
           have e1:=hc s.1 hs b
           rcases Int.lt_or_eq_of_le hs with h2|h2
           · exfalso
             have e2:=hc (s.1 - 1) (by omega) (by omega)
             rcases d with d|d
             · omega
             · exact d (by rw [e2,c,e1])
           · exact Prod.ext h2.symm (by rw [c,e1])
 · subst hz
   have hS:S=[]:=by
    rw [List.eq_nil_iff_forall_not_mem]
    intro s hs
    have:=(h.mem s).1 hs
    omega
   subst hS
   refine ⟨by simp [putS],fun s=>?_,fun _=>⟨[],0,by simp [putS];exact (hc (T' - 1) (by omega) (by omega)).symm⟩⟩
   simp only [putS,List.getLast?_nil,List.nil_append,List.mem_singleton]
   constructor
   · rintro rfl;exact ⟨Int.le_refl _,hlt,rfl,.inl rfl⟩
   · rintro ⟨a,b,c,d⟩
     have e1:=hc s.1 a b
     rcases Int.lt_or_eq_of_le a with h2|h2
     · exfalso
       have e2:=hc (s.1 - 1) (by omega) (by omega)
       rcases d with d|d
       · omega
       · exact d (by rw [e2,c,e1])
     · exact Prod.ext h2.symm (by rw [c,e1])
end Go.Sim.M
end
noncomputable section
set_option maxRecDepth 100000
namespace Go.Sim.M
open Go.RowKit Go.Sim.Srt
theorem xl3 (t:Int) (l:List Fc) (hl:l.length≤1048576):Iter (xbU t (l.map encF) ((l.length:Nat):Int)) ((0:Nat),(0:Int),[])=some ((l.flatMap (fun (f:Fc)=>if hasP f.p t=true then [f.r] else [])).length,(l.flatMap (fun (f:Fc)=>if hasP f.p t=true then [f.r] else [])).map encR):=by
 refine xwG l (fun (f:Fc)=>if hasP f.p t=true then [f.r] else []) encR 1 (fun f hf=>?_) (fun n h D hD=>?_) (fun D=>?_)
 · cases hc0:(hasP (f).p t)<;>simp [hc0]
 · have h1:(n:Int)<(l.length:Int):=by omega
   have m1:(D.length+1)*24≤140737488355328:=by omega
   have m2:D.length+1≤4611686018427387904:=by omega
   have gf:(l.map encF).getD n .top=encF l[n]:=xco _ _ _ h
   simp only [xbU,xex,List.length_map,xaF,xaJ,decide_true,decide_false,Bool.and_true,Bool.true_and,Bool.not_true,Bool.not_false,Int.toNat_natCast,Int.natCast_nonneg,Option.isSome_some,Option.getD_some,beq_self_eq_true,Nat.zero_add,Nat.sub_zero,h,h1,gf,cF0,cF1,cF2,sF0,sF1,sF2,lF,sF12,sF02,xwk,m1,m2,wrapS (n:=n) (by omega)]
   cases hc0:(hasP (l[n]).p t)<;>simp [encR,xaF,xaJ,encR,hc0]
 · simp only [xbU,xex,List.length_map,Int.lt_irrefl,decide_false,xaJ]
end Go.Sim.M
end
noncomputable section
set_option maxRecDepth 100000
namespace Go.Sim.M
open Go.RowKit Go.Sim.Srt
section
variable {α : Type} {enc : α → AV} {okE : AV → Bool} {ldE : AV → AV}
theorem gR {l:List α} {i:Nat} {x:α} (h:l[i]?=some x):(List.map enc l).getD i .top=enc x:=by
 simp [List.getD,h]
theorem setR (l:List α) (i:Nat) (x:α):(List.map enc l).set i (enc x)=List.map enc (l.set i x):=by
 simp [List.map_set]
theorem xgw {l:List α} {i:Nat} {x:α} (h:l[i]?=some x):i<l.length:=(List.getElem?_eq_some_iff.1 h).1
theorem xdg {l:List α} {i:Nat} {x:α} (h:l[i]?=some x):x∈l:=List.mem_of_getElem? h
theorem xwz {l:List α} {i j:Nat} {x y:α} (hx:x∈l) (hy:y∈l) {z:α} (h:z∈(l.set i y).set j x):z∈l:=by
 rcases List.mem_or_eq_of_mem_set h with h|rfl
 · rcases List.mem_or_eq_of_mem_set h with h|rfl
   · exact h
   · exact hy
 · exact hx
theorem w64 {x:Int} {n:Nat} (h:x=(n:Int)) (hn:n≤9223372036854775807):IntKind.i64.wrap x=(n:Int):=by
 rw [xiE (by omega) (by omega)];exact h
theorem half64 {i j:Nat} (h:i+j≤9223372036854775807):IntKind.i64.wrap ((IntKind.u64.wrap (IntKind.i64.wrap ((i:Int)+(j:Int)))).fdiv 2)=(((i+j) / 2:Nat):Int):=by
 rw [xiE (n:=(i:Int)+(j:Int)) (by omega) (by omega)]
 have hu:IntKind.u64.wrap ((i:Int)+(j:Int))=(i:Int)+(j:Int):=by
  unfold IntKind.wrap IntKind.bits IntKind.signed;simp;omega
 rw [hu,Int.fdiv_eq_ediv_of_nonneg _ (by omega)]
 exact w64 (by omega) (by omega)
structure LOk (N:Nat) (ok:α→Prop) (l:List α):Prop where
 len:l.length=N
 ok:∀ x,x∈l→ok x
theorem LOk.set2 {N:Nat} {ok:α→Prop} {l:List α} (h:LOk N ok l) {i j:Nat} {x y:α} (hx:x∈l) (hy:y∈l):LOk N ok ((l.set i y).set j x) :=
 ⟨by simp [h.len],fun z hz=>h.ok z (xwz hx hy hz)⟩
theorem LOk.perm {N:Nat} {ok:α→Prop} {l l':List α} (h:LOk N ok l) (hp:l'.Perm l):LOk N ok l' :=
 ⟨hp.length_eq.trans h.len,fun z hz=>h.ok z (hp.mem_iff.1 hz)⟩
theorem xfm {σ ρ σ' ρ':Type} {p:σ→Option (σ⊕ρ)} {g:σ'→Option (σ'⊕ρ')} (I:σ→Prop) (J:ρ→Prop) (e:σ→σ') (f:ρ→ρ')
  (h:∀ s,I s→(∀ s',p s=some (.inl s')→g (e s)=some (.inl (e s'))∧I s')∧(∀ r,p s=some (.inr r)→g (e s)=some (.inr (f r))∧J r)) {s:σ} {r:ρ} (hI:I s) (hr:Iter p s=some r):Iter g (e s)=some (f r)∧J r:=by
 obtain ⟨n,hn⟩:=xiJ.1 hr
 clear hr
 induction n generalizing s with
 | zero=>simp [iterN] at hn
 | succ n ih =>
  unfold iterN at hn
  obtain ⟨h1,h2⟩:=h s hI
  split at hn
  · rename_i s' hs
    obtain ⟨h3,h4⟩:=h1 s' hs
    rw [xed h3]
    exact ih h4 hn
  · rename_i r' hs
    simp only [Option.some.injEq] at hn
    subst hn
    obtain ⟨h3,h4⟩:=h2 _ hs
    exact ⟨xaZ h3,h4⟩
  · simp at hn
theorem xhi {σ ρ σ' ρ':Type} {p:Option (σ⊕ρ)} {g:Option (σ'⊕ρ')} {I:σ→Prop} {J:ρ→Prop} {e:σ→σ'} {f:ρ→ρ'} {s0:σ} (hp:p=some (.inl s0)) (hg:g=some (.inl (e s0))) (hI:I s0) :
  (∀ s',p=some (.inl s')→g=some (.inl (e s'))∧I s')∧(∀ r,p=some (.inr r)→g=some (.inr (f r))∧J r) :=
 ⟨fun s' h=>by rw [hp] at h;simp only [Option.some.injEq,Sum.inl.injEq] at h;subst h;exact ⟨hg,hI⟩,fun r h=>by rw [hp] at h;simp at h⟩
theorem xhf {σ ρ σ' ρ':Type} {p:Option (σ⊕ρ)} {g:Option (σ'⊕ρ')} {I:σ→Prop} {J:ρ→Prop} {e:σ→σ'} {f:ρ→ρ'} {r0:ρ} (hp:p=some (.inr r0)) (hg:g=some (.inr (f r0))) (hJ:J r0) :
  (∀ s',p=some (.inl s')→g=some (.inl (e s'))∧I s')∧(∀ r,p=some (.inr r)→g=some (.inr (f r))∧J r) :=
 ⟨fun s' h=>by rw [hp] at h;simp at h,fun r h=>by rw [hp] at h;simp only [Option.some.injEq,Sum.inr.injEq] at h;subst h;exact ⟨hg,hJ⟩⟩
theorem xdB {σ ρ σ' ρ':Type} {p:Option (σ⊕ρ)} {g:Option (σ'⊕ρ')} {I:σ→Prop} {J:ρ→Prop} {e:σ→σ'} {f:ρ→ρ'} (hp:p=none) :
  (∀ s',p=some (.inl s')→g=some (.inl (e s'))∧I s')∧(∀ r,p=some (.inr r)→g=some (.inr (f r))∧J r) :=
 ⟨fun s' h=>by rw [hp] at h;simp at h,fun r h=>by rw [hp] at h;simp at h⟩
theorem xyQ {N:Nat} (he:∀ a,okE (enc a)=true) (hd:∀ a,ldE (enc a)=enc a) (hN:N≤2 ^ 60) {ok:α→Prop} {c:α→α→Int} {P:AV→AV→Bool} {V:AV→AV→Int} (hc:∀ x y,ok x→ok y→P (enc x) (enc y)=true∧V (enc x) (enc y)=c x y)
  {g:Int×List AV→Option ((Int×List AV)⊕List AV)} (a:Nat)
  (hg:∀ (j:Int) (xs:List AV),g (j,xs)=br (decide (j>(a:Int))) (br (decide ((0:Int)≤j)&&decide (j<(N:Int))) (br (decide ((0:Nat)+j.toNat<xs.length)&&okE (xs.getD ((0:Nat)+j.toNat) AV.top))
   (br (decide ((0:Int)≤IntKind.i64.wrap (j - 1))&&decide (IntKind.i64.wrap (j - 1)<(N:Int))) (br (decide ((0:Nat)+(IntKind.i64.wrap (j - 1)).toNat<xs.length)&&okE (xs.getD ((0:Nat)+(IntKind.i64.wrap (j - 1)).toNat) AV.top))
   (br (P (xs.getD ((0:Nat)+j.toNat) AV.top) (xs.getD ((0:Nat)+(IntKind.i64.wrap (j - 1)).toNat) AV.top))
   (br (decide (V (xs.getD ((0:Nat)+j.toNat) AV.top) (xs.getD ((0:Nat)+(IntKind.i64.wrap (j - 1)).toNat) AV.top)<0))
   (br (decide ((0:Int)≤IntKind.i64.wrap (j - 1))&&decide (IntKind.i64.wrap (j - 1)<(N:Int))) (br (decide ((0:Nat)+(IntKind.i64.wrap (j - 1)).toNat<xs.length)&&okE (xs.getD ((0:Nat)+(IntKind.i64.wrap (j - 1)).toNat) AV.top))
   (br (decide ((0:Int)≤j)&&decide (j<(N:Int))) (br (decide ((0:Nat)+j.toNat<xs.length)&&okE (xs.getD ((0:Nat)+j.toNat) AV.top))
   (br (decide ((0:Int)≤j)&&decide (j<(N:Int))) (br (decide ((0:Nat)+j.toNat<xs.length)) (br (decide ((0:Int)≤IntKind.i64.wrap (j - 1))&&decide (IntKind.i64.wrap (j - 1)<(N:Int)))
   (br (decide ((0:Nat)+(IntKind.i64.wrap (j - 1)).toNat<(xs.set ((0:Nat)+j.toNat) (ldE (xs.getD ((0:Nat)+(IntKind.i64.wrap (j - 1)).toNat) AV.top))).length))
    (some (.inl (IntKind.i64.wrap (j - 1),(xs.set ((0:Nat)+j.toNat) (ldE (xs.getD ((0:Nat)+(IntKind.i64.wrap (j - 1)).toNat) AV.top))).set ((0:Nat)+(IntKind.i64.wrap (j - 1)).toNat) (ldE (xs.getD ((0:Nat)+j.toNat) AV.top)))))
    none) none) none) none) none) none) none) none) (some (.inr xs))) none) none) none) none) none) (some (.inr xs)))
  {j:Nat} {l r:List α} (hl:LOk N ok l) (hr:Iter (insInner c a) (j,l)=some r):Iter g ((j:Int),List.map enc l)=some (List.map enc r)∧LOk N ok r:=by
 refine xfm (I:=fun s=>LOk N ok s.2) (J:=LOk N ok) (e:=fun s=>((s.1:Int),List.map enc s.2)) (f:=List.map enc) ?_ (s:=(j,l)) hl hr
 rintro ⟨j,l⟩ (hl:LOk N ok l)
 have hlen:l.length=N:=hl.len
 by_cases ha:a<j
 · cases hx:l[j]? with
   | none=>exact xdB (by simp [insInner,ha,hx])
   | some x =>
    cases hy:l[j - 1]? with
    | none=>exact xdB (by simp [insInner,ha,hx,hy])
    | some y =>
     have hj:=xgw hx
     have hj1:=xgw hy
     have w1:IntKind.i64.wrap ((j:Int) - 1)=((j - 1:Nat):Int):=w64 (by omega) (by omega)
     obtain ⟨c1,c2⟩:=hc x y (hl.ok _ (xdg hx)) (hl.ok _ (xdg hy))
     have k1:(j:Int)<(N:Int):=by omega
     have k2:((j - 1:Nat):Int)<(N:Int):=by omega
     have k3:(j:Int)>(a:Int):=by omega
     have k4:j<(List.map enc l).length:=by simpa using hj
     have k5:j - 1<(List.map enc l).length:=by simpa using hj1
     by_cases hlt:c x y<0
     · have hp:insInner c a (j,l)=some (.inl (j - 1,(l.set j y).set (j - 1) x)):=by simp [insInner,ha,hx,hy,hlt]
       have hgg:g ((j:Int),List.map enc l)=some (.inl (((j - 1:Nat):Int),List.map enc ((l.set j y).set (j - 1) x))):=by
        rw [hg]
        simp only [w1,Int.toNat_natCast,Nat.zero_add,gR hx,gR hy,he,hd,c1,c2,setR,hlt,k1,k2,k3,k4,k5,decide_true,Bool.and_true,xaF,Int.natCast_nonneg,List.length_map,List.length_set,hj,hj1]
       exact xhi hp hgg (hl.set2 (xdg hx) (xdg hy))
     · have hp:insInner c a (j,l)=some (.inr l):=by simp [insInner,ha,hx,hy,hlt]
       have hgg:g ((j:Int),List.map enc l)=some (.inr (List.map enc l)):=by
        rw [hg]
        simp only [w1,Int.toNat_natCast,Nat.zero_add,gR hx,gR hy,he,hd,c1,c2,setR,hlt,k1,k2,k3,k4,k5,decide_true,decide_false,Bool.and_true,xaF,xaJ,Int.natCast_nonneg]
       exact xhf hp hgg hl
 · have hp:insInner c a (j,l)=some (.inr l):=by simp [insInner,ha]
   have k3:¬ ((j:Int)>(a:Int)):=by omega
   have hgg:g ((j:Int),List.map enc l)=some (.inr (List.map enc l)):=by
    rw [hg]
    simp only [k3,decide_false,xaJ]
   exact xhf hp hgg hl
def xchK {T:Type} (okE:AV→Bool) (ldE:AV→AV) (N:Nat) (u v:Int) (xs:List AV) (δ:T) (κ:List AV→T):T :=
 br (decide ((0:Int)≤v)&&decide (v<(N:Int))) (br (decide ((0:Nat)+v.toNat<xs.length)&&okE (xs.getD ((0:Nat)+v.toNat) AV.top))
 (br (decide ((0:Int)≤u)&&decide (u<(N:Int))) (br (decide ((0:Nat)+u.toNat<xs.length)&&okE (xs.getD ((0:Nat)+u.toNat) AV.top))
 (br (decide ((0:Int)≤u)&&decide (u<(N:Int))) (br (decide ((0:Nat)+u.toNat<xs.length)) (br (decide ((0:Int)≤v)&&decide (v<(N:Int)))
 (br (decide ((0:Nat)+v.toNat<(xs.set ((0:Nat)+u.toNat) (ldE (xs.getD ((0:Nat)+v.toNat) AV.top))).length))
  (κ ((xs.set ((0:Nat)+u.toNat) (ldE (xs.getD ((0:Nat)+v.toNat) AV.top))).set ((0:Nat)+v.toNat) (ldE (xs.getD ((0:Nat)+u.toNat) AV.top))))
  δ) δ) δ) δ) δ) δ) δ) δ
theorem xqG {T:Type} {N:Nat} (he:∀ a,okE (enc a)=true) (hd:∀ a,ldE (enc a)=enc a)  {l:List α} (hl:l.length=N) {i j:Nat} {x y:α} (hx:l[i]?=some x) (hy:l[j]?=some y) {δ:T} {κ:List AV→T}:xchK okE ldE N (i:Int) (j:Int) (List.map enc l) δ κ=κ (List.map enc ((l.set i y).set j x)):=by
 have h1:=xgw hx
 have h2:=xgw hy
 have k1:(i:Int)<(N:Int):=by omega
 have k2:(j:Int)<(N:Int):=by omega
 have k4:i<(List.map enc l).length:=by simpa using h1
 have k5:j<(List.map enc l).length:=by simpa using h2
 unfold xchK
 simp only [Int.toNat_natCast,Nat.zero_add,gR hx,gR hy,he,hd,setR,k1,k2,k4,k5,decide_true,Bool.and_true,xaF,Int.natCast_nonneg,List.length_map,List.length_set,h1,h2]
theorem xyA {N:Nat} (he:∀ a,okE (enc a)=true) (hd:∀ a,ldE (enc a)=enc a) (hN:N≤2 ^ 60) {ok:α→Prop} {g:Int×List AV→Option ((Int×List AV)⊕List AV)} (a b n:Nat) (ha:a≤2 ^ 60) (hb:b≤2 ^ 60) (hn:n≤2 ^ 60)
  (hg:∀ (i:Int) (xs:List AV),g (i,xs)=br (decide (i<(n:Int))) (xchK okE ldE N (IntKind.i64.wrap ((a:Int)+i)) (IntKind.i64.wrap ((b:Int)+i)) xs none fun ys=>some (.inl (IntKind.i64.wrap (i+1),ys))) (some (.inr xs)))
  {l r:List α} (hl:LOk N ok l) (hr:swr a b n l=some r):Iter g ((0:Int),List.map enc l)=some (List.map enc r)∧LOk N ok r:=by
 refine xfm (I:=fun s=>LOk N ok s.2) (J:=LOk N ok) (e:=fun s=>((s.1:Int),List.map enc s.2)) (f:=List.map enc) ?_ (s:=(0,l)) hl hr
 rintro ⟨i,l⟩ (hl:LOk N ok l)
 by_cases hi:i<n
 · cases hx:l[a+i]? with
   | none=>exact xdB (by simp [swrStep,hi,hx])
   | some x =>
    cases hy:l[b+i]? with
    | none=>exact xdB (by simp [swrStep,hi,hx,hy])
    | some y =>
     refine xhi (s0:=(i+1,(l.set (a+i) y).set (b+i) x)) (by simp [swrStep,hi,hx,hy]) ?_ (hl.set2 (xdg hx) (xdg hy))
     rw [hg,show decide ((i:Int)<(n:Int))=true by simp [hi],xaF,w64 (n:=a+i) (by omega) (by omega),w64 (n:=b+i) (by omega) (by omega),xqG he hd hl.len hx hy,w64 (n:=i+1) (by omega) (by omega)]
 · refine xhf (r0:=l) (by simp [swrStep,hi]) ?_ hl
   rw [hg,show decide ((i:Int)<(n:Int))=false by simp;omega,xaJ]
theorem xzK {N:Nat} (he:∀ a,okE (enc a)=true) (hd:∀ a,ldE (enc a)=enc a) (hN:N≤2 ^ 60) {ok:α→Prop} {g:Int×List AV→Option ((Int×List AV)⊕List AV)} (e i:Nat) (hi:i=e+1) (hee:e≤2 ^ 60)
  (hg:∀ (k:Int) (xs:List AV),g (k,xs)=br (decide (k<IntKind.i64.wrap ((i:Int) - 1))) (xchK okE ldE N k (IntKind.i64.wrap (k+1)) xs none fun ys=>some (.inl (IntKind.i64.wrap (k+1),ys))) (some (.inr xs)))
  {k:Nat} {l r:List α} (hl:LOk N ok l) (hr:Iter (upStep e) (k,l)=some r):Iter g ((k:Int),List.map enc l)=some (List.map enc r)∧LOk N ok r:=by
 refine xfm (I:=fun s=>LOk N ok s.2) (J:=LOk N ok) (e:=fun s=>((s.1:Int),List.map enc s.2)) (f:=List.map enc) ?_ (s:=(k,l)) hl hr
 rintro ⟨k,l⟩ (hl:LOk N ok l)
 have we:IntKind.i64.wrap ((i:Int) - 1)=(e:Int):=w64 (by omega) (by omega)
 by_cases hk:k<e
 · cases hx:l[k]? with
   | none=>exact xdB (by simp [upStep,hk,hx])
   | some x =>
    cases hy:l[k+1]? with
    | none=>exact xdB (by simp [upStep,hk,hx,hy])
    | some y =>
     refine xhi (s0:=(k+1,(l.set k y).set (k+1) x)) (by simp [upStep,hk,hx,hy]) ?_ (hl.set2 (xdg hx) (xdg hy))
     rw [hg,we,show decide ((k:Int)<(e:Int))=true by simp [hk],xaF,w64 (n:=k+1) (by omega) (by omega),xqG he hd hl.len hx hy]
 · refine xhf (r0:=l) (by simp [upStep,hk]) ?_ hl
   rw [hg,we,show decide ((k:Int)<(e:Int))=false by simp;omega,xaJ]
theorem xwg {N:Nat} (he:∀ a,okE (enc a)=true) (hd:∀ a,ldE (enc a)=enc a) (hN:N≤2 ^ 60) {ok:α→Prop} {g:Int×List AV→Option ((Int×List AV)⊕List AV)} (e:Nat)
  (hg:∀ (k:Int) (xs:List AV),g (k,xs)=br (decide (k>(e:Int))) (xchK okE ldE N k (IntKind.i64.wrap (k - 1)) xs none fun ys=>some (.inl (IntKind.i64.wrap (k - 1),ys))) (some (.inr xs)))
  {k:Nat} {l r:List α} (hl:LOk N ok l) (hr:Iter (downStep e) (k,l)=some r):Iter g ((k:Int),List.map enc l)=some (List.map enc r)∧LOk N ok r:=by
 refine xfm (I:=fun s=>LOk N ok s.2) (J:=LOk N ok) (e:=fun s=>((s.1:Int),List.map enc s.2)) (f:=List.map enc) ?_ (s:=(k,l)) hl hr
 rintro ⟨k,l⟩ (hl:LOk N ok l)
 by_cases hk:e<k
 · cases hx:l[k]? with
   | none=>exact xdB (by simp [downStep,hk,hx])
   | some x =>
    cases hy:l[k - 1]? with
    | none=>exact xdB (by simp [downStep,hk,hx,hy])
    | some y =>
     have hlen:=hl.len
     have:=xgw hx
     refine xhi (s0:=(k - 1,(l.set k y).set (k - 1) x)) (by simp [downStep,hk,hx,hy]) ?_ (hl.set2 (xdg hx) (xdg hy))
     rw [hg,show decide ((k:Int)>(e:Int))=true by simp [hk],xaF,w64 (x:=(k:Int) - 1) (n:=k - 1) (by omega) (by omega),xqG he hd hl.len hx hy]
 · refine xhf (r0:=l) (by simp [downStep,hk]) ?_ hl
   rw [hg,show decide ((k:Int)>(e:Int))=false by simp;omega,xaJ]
def cmpK {T:Type} (okE:AV→Bool) (N:Nat) (P:AV→AV→Bool) (u v:Int) (xs:List AV) (δ:T) (κ:AV→AV→T):T :=
 br (decide ((0:Int)≤u)&&decide (u<(N:Int))) (br (decide ((0:Nat)+u.toNat<xs.length)&&okE (xs.getD ((0:Nat)+u.toNat) AV.top))
 (br (decide ((0:Int)≤v)&&decide (v<(N:Int))) (br (decide ((0:Nat)+v.toNat<xs.length)&&okE (xs.getD ((0:Nat)+v.toNat) AV.top))
 (br (P (xs.getD ((0:Nat)+u.toNat) AV.top) (xs.getD ((0:Nat)+v.toNat) AV.top))
  (κ (xs.getD ((0:Nat)+u.toNat) AV.top) (xs.getD ((0:Nat)+v.toNat) AV.top)) δ) δ) δ) δ) δ
theorem xyD {T:Type} {N:Nat} (he:∀ a,okE (enc a)=true)  {P:AV→AV→Bool} {l:List α} (hl:l.length=N) {i j:Nat} {x y:α} (hx:l[i]?=some x) (hy:l[j]?=some y) (hP:P (enc x) (enc y)=true) {δ:T} {κ:AV→AV→T}:cmpK okE N P (i:Int) (j:Int) (List.map enc l) δ κ=κ (enc x) (enc y):=by
 have h1:=xgw hx
 have h2:=xgw hy
 have k1:(i:Int)<(N:Int):=by omega
 have k2:(j:Int)<(N:Int):=by omega
 have k4:i<(List.map enc l).length:=by simpa using h1
 have k5:j<(List.map enc l).length:=by simpa using h2
 unfold cmpK
 simp only [Int.toNat_natCast,Nat.zero_add,gR hx,gR hy,he,hP,k1,k2,k4,k5,decide_true,Bool.and_true,xaF,Int.natCast_nonneg]
def halfI (i j:Int):Int:=IntKind.i64.wrap ((IntKind.u64.wrap (IntKind.i64.wrap (i+j))).fdiv 2)
theorem xq7 {N:Nat} (he:∀ a,okE (enc a)=true) (hN:N≤2 ^ 60) {ok:α→Prop} {c:α→α→Int} {P:AV→AV→Bool} {V:AV→AV→Int} (hc:∀ x y,ok x→ok y→P (enc x) (enc y)=true∧V (enc x) (enc y)=c x y)
  {g:Int×Int×List AV→Option ((Int×Int×List AV)⊕(Int×List AV))} (u v:Nat→Nat) (U V':Int→Int) (lo hi:Nat) (hhi:hi≤2 ^ 61) (hu:∀ h,lo≤h→h<hi→U (h:Int)=(u h:Int)) (hv:∀ h,lo≤h→h<hi→V' (h:Int)=(v h:Int)) (t:Int→Bool)
  (hg:∀ (i j:Int) (xs:List AV),g (i,j,xs)=br (decide (i<j)) (cmpK okE N P (U (halfI i j)) (V' (halfI i j)) xs none fun X Y=>br (t (V X Y)) (some (.inl (IntKind.i64.wrap (halfI i j+1),j,xs))) (some (.inl (i,halfI i j,xs)))) (some (.inr (i,xs))))
  {l:List α} (hl:LOk N ok l) {i j r:Nat} (h1:lo≤i) (h2:j≤hi) (h3:i≤hi) (hr:Iter (bsStep fun h=>(get2 c l (u h) (v h)).map t) (i,j)=some r):Iter g ((i:Int),(j:Int),List.map enc l)=some ((r:Int),List.map enc l)∧lo≤r∧r≤hi:=by
 refine xfm (I:=fun s=>lo≤s.1∧s.2≤hi∧s.1≤hi) (J:=fun r=>lo≤r∧r≤hi) (e:=fun (s:Nat×Nat)=>((s.1:Int),(s.2:Int),List.map enc l)) (f:=fun (r:Nat)=>((r:Int),List.map enc l)) ?_ (s:=(i,j)) ⟨h1,h2,h3⟩ hr
 rintro ⟨i,j⟩ ⟨h1,h2,h3⟩
 dsimp only at h1 h2 h3
 by_cases hij:i<j
 · have hh:halfI (i:Int) (j:Int)=(((i+j) / 2:Nat):Int):=half64 (by omega)
   have b1:lo≤(i+j) / 2:=by omega
   have b2:(i+j) / 2<hi:=by omega
   have hdec:decide ((i:Int)<(j:Int))=true:=by simp [hij]
   cases hx:l[u ((i+j) / 2)]? with
   | none=>exact xdB (by simp [bsStep,hij,get2,hx])
   | some x =>
    cases hy:l[v ((i+j) / 2)]? with
    | none=>exact xdB (by simp [bsStep,hij,get2,hx,hy])
    | some y =>
     obtain ⟨c1,c2⟩:=hc x y (hl.ok _ (xdg hx)) (hl.ok _ (xdg hy))
     have hgg:=hg (i:Int) (j:Int) (List.map enc l)
     rw [hdec,xaF,hh,hu _ b1 b2,hv _ b1 b2,xyD he hl.len hx hy c1,c2] at hgg
     cases ht:t (c x y) with
     | true =>
      rw [ht,xaF,w64 (n:=(i+j) / 2+1) (by omega) (by omega)] at hgg
      exact xhi (s0:=((i+j) / 2+1,j)) (by simp [bsStep,hij,get2,hx,hy,ht]) hgg ⟨by dsimp only;omega,h2,by dsimp only;omega⟩
     | false =>
      rw [ht,xaJ] at hgg
      exact xhi (s0:=(i,(i+j) / 2)) (by simp [bsStep,hij,get2,hx,hy,ht]) hgg ⟨h1,by dsimp only;omega,h3⟩
 · have hdec:decide ((i:Int)<(j:Int))=false:=by simp;omega
   refine xhf (r0:=i) (by simp [bsStep,hij]) ?_ ⟨h1,h3⟩
   rw [hg,hdec,xaJ]
theorem xyP {N:Nat} (hN:N≤2 ^ 60) {ok:α→Prop} {SW:Int→Int→Int→List AV→Option (List AV)} (hSW:∀ (a b n:Nat) (l r:List α),a≤2 ^ 60→b≤2 ^ 60→n≤2 ^ 60→LOk N ok l→swr a b n l=some r→SW a b n (List.map enc l)=some (List.map enc r)∧LOk N ok r)
  {g:Int×Int×List AV→Option ((Int×Int×List AV)⊕(Int×List AV))} (m:Nat) (hm:m≤N)
  (hg:∀ (i j:Int) (xs:List AV),g (i,j,xs)=br (i != j) (br (decide (i>j)) (br (SW (IntKind.i64.wrap ((m:Int) - i)) m j xs).isSome (some (.inl (IntKind.i64.wrap (i - j),j,(SW (IntKind.i64.wrap ((m:Int) - i)) m j xs).getD []))) none)
   (br (SW (IntKind.i64.wrap ((m:Int) - i)) (IntKind.i64.wrap (IntKind.i64.wrap ((m:Int)+j) - i)) i xs).isSome (some (.inl (i,IntKind.i64.wrap (j - i),(SW (IntKind.i64.wrap ((m:Int) - i)) (IntKind.i64.wrap (IntKind.i64.wrap ((m:Int)+j) - i)) i xs).getD []))) none)) (some (.inr (i,xs))))
  {i j:Nat} {l l':List α} {i':Nat} (hi:i≤m) (hj:m+j≤N) (hl:LOk N ok l) (hr:Iter (rotStep m) (i,j,l)=some (i',l')):Iter g ((i:Int),(j:Int),List.map enc l)=some ((i':Int),List.map enc l')∧i'≤m∧LOk N ok l':=by
 refine xfm (I:=fun s=>s.1≤m∧m+s.2.1≤N∧LOk N ok s.2.2) (J:=fun r=>r.1≤m∧LOk N ok r.2) (e:=fun (s:Nat×Nat×List α)=>((s.1:Int),(s.2.1:Int),List.map enc s.2.2)) (f:=fun (r:Nat×List α)=>((r.1:Int),List.map enc r.2)) ?_ (s:=(i,j,l)) ⟨hi,hj,hl⟩ hr
 rintro ⟨i,j,l⟩ ⟨hi,hj,hl⟩
 dsimp only at hi hj hl
 by_cases h1:i=j
 · subst h1
   refine xhf (r0:=(i,l)) (by simp [rotStep]) ?_ ⟨hi,hl⟩
   rw [hg];simp [xaJ]
 · have d1:((i:Int) != (j:Int))=true:=by simp;omega
   have w1:IntKind.i64.wrap ((m:Int) - (i:Int))=((m - i:Nat):Int):=w64 (by omega) (by omega)
   by_cases h2:j<i
   · cases hs:swr (m - i) m j l with
     | none=>exact xdB (by simp [rotStep,h1,h2,hs])
     | some l1 =>
      obtain ⟨e1,e2⟩:=hSW (m - i) m j l l1 (by omega) (by omega) (by omega) hl hs
      refine xhi (s0:=(i - j,j,l1)) (by simp [rotStep,h1,h2,hs]) ?_ ⟨by dsimp only;omega,hj,e2⟩
      rw [hg,d1,xaF,show decide ((i:Int)>(j:Int))=true by simp [h2],xaF,w1,e1,w64 (x:=(i:Int) - (j:Int)) (n:=i - j) (by omega) (by omega)]
      rfl
   · cases hs:swr (m - i) (m+j - i) i l with
     | none=>exact xdB (by simp [rotStep,h1,h2,hs])
     | some l1 =>
      obtain ⟨e1,e2⟩:=hSW (m - i) (m+j - i) i l l1 (by omega) (by omega) (by omega) hl hs
      refine xhi (s0:=(i,j - i,l1)) (by simp [rotStep,h1,h2,hs]) ?_ ⟨hi,by dsimp only;omega,e2⟩
      rw [hg,d1,xaF,show decide ((i:Int)>(j:Int))=false by simp;omega,xaJ,w1,w64 (x:=(m:Int)+(j:Int)) (n:=m+j) (by omega) (by omega),w64 (x:=((m+j:Nat):Int) - (i:Int)) (n:=m+j - i) (by omega) (by omega),e1,w64 (x:=(j:Int) - (i:Int)) (n:=j - i) (by omega) (by omega)]
      rfl
theorem xvL {N:Nat} (hN:N≤2 ^ 60) {ok:α→Prop} {c:α→α→Int} (a b:Nat) (hb:b≤N) {gi:Int→Int×List AV→Option ((Int×List AV)⊕List AV)}
  (hi:∀ (i:Nat) (l r:List α),LOk N ok l→Iter (insInner c a) (i,l)=some r→Iter (gi i) ((i:Int),List.map enc l)=some (List.map enc r)∧LOk N ok r)
  {g:Int×List AV→Option ((Int×List AV)⊕List AV)}
  (hg:∀ (i:Int) (xs:List AV),g (i,xs)=br (decide (i<(b:Int))) (br (Iter (gi i) (i,xs)).isSome (some (.inl (IntKind.i64.wrap (i+1),(Iter (gi i) (i,xs)).getD []))) none) (some (.inr xs)))
  {i:Nat} {l r:List α} (hl:LOk N ok l) (hr:Iter (insStep c a b) (i,l)=some r):Iter g ((i:Int),List.map enc l)=some (List.map enc r)∧LOk N ok r:=by
 refine xfm (I:=fun s=>LOk N ok s.2) (J:=LOk N ok) (e:=fun s=>((s.1:Int),List.map enc s.2)) (f:=List.map enc) ?_ (s:=(i,l)) hl hr
 rintro ⟨i,l⟩ (hl:LOk N ok l)
 by_cases h:i<b
 · cases hs:Iter (insInner c a) (i,l) with
   | none=>exact xdB (by simp [insStep,h,hs])
   | some l1 =>
    obtain ⟨e1,e2⟩:=hi i l l1 hl hs
    refine xhi (s0:=(i+1,l1)) (by simp [insStep,h,hs]) ?_ e2
    rw [hg,show decide ((i:Int)<(b:Int))=true by simp [h],xaF,e1,w64 (x:=(i:Int)+1) (n:=i+1) (by omega) (by omega)]
    rfl
 · refine xhf (r0:=l) (by simp [insStep,h]) ?_ hl
   rw [hg,show decide ((i:Int)<(b:Int))=false by simp;omega,xaJ]
theorem xrh {N:Nat} (hN:N≤2 ^ 60) {ok:α→Prop} (w:Nat) (hw:w≤2 ^ 61) {p:Nat×Nat×List α→Option ((Nat×Nat×List α)⊕(Nat×List α))} {F:Nat→Nat→List α→Option (List α)} (hp1:∀ a b l l',b≤N→F a b l=some l'→p (a,b,l)=some (.inl (b,b+w,l'))) (hp2:∀ a b l,b≤N→F a b l=none→p (a,b,l)=none) (hp3:∀ a b l,¬ b≤N→p (a,b,l)=some (.inr (a,l)))
  {G:Int→Int→List AV→Option (List AV)} (hF:∀ (a b:Nat) (l r:List α),a≤b→b=a+w→b≤N→LOk N ok l→F a b l=some r→G a b (List.map enc l)=some (List.map enc r)∧LOk N ok r)
  {g:Int×Int×List AV→Option ((Int×Int×List AV)⊕(Int×List AV))}
  (hg:∀ (a b:Int) (xs:List AV),g (a,b,xs)=br (decide (b≤(N:Int))) (br (G a b xs).isSome (some (.inl (b,IntKind.i64.wrap (b+(w:Int)),(G a b xs).getD []))) none) (some (.inr (a,xs))))
  {l l':List α} {a a':Nat} (hl:LOk N ok l) (hr:Iter p (a,a+w,l)=some (a',l')) (ha:a≤N):Iter g ((a:Int),((a+w:Nat):Int),List.map enc l)=some ((a':Int),List.map enc l')∧a'≤N∧N<a'+w∧LOk N ok l':=by
 refine xfm (I:=fun s=>s.1≤N∧s.2.1=s.1+w∧LOk N ok s.2.2) (J:=fun r=>r.1≤N∧N<r.1+w∧LOk N ok r.2) (e:=fun (s:Nat×Nat×List α)=>((s.1:Int),(s.2.1:Int),List.map enc s.2.2)) (f:=fun (r:Nat×List α)=>((r.1:Int),List.map enc r.2)) ?_ (s:=(a,a+w,l)) ⟨ha,rfl,hl⟩ hr
 rintro ⟨a,b,l⟩ ⟨h1,h2,hl⟩
 dsimp only at h1 h2 hl
 by_cases h:b≤N
 · cases hs:F a b l with
   | none=>exact xdB (hp2 _ _ _ h hs)
   | some l1 =>
    obtain ⟨e1,e2⟩:=hF a b l l1 (by omega) h2 h hl hs
    refine xhi (s0:=(b,b+w,l1)) (hp1 _ _ _ _ h hs) ?_ ⟨h,rfl,e2⟩
    rw [hg,show decide ((b:Int)≤(N:Int))=true by simp [h],xaF,e1,w64 (x:=(b:Int)+(w:Int)) (n:=b+w) (by omega) (by omega)]
    rfl
 · refine xhf (r0:=(a,l)) (hp3 _ _ _ h) ?_ ⟨h1,by dsimp only;omega,hl⟩
   rw [hg,show decide ((b:Int)≤(N:Int))=false by simp;omega,xaJ]
end
end Go.Sim.M
end
noncomputable section
set_option maxRecDepth 100000
namespace Go.Sim.M
open Go.RowKit Go.Sim.Srt
def okEA (x:AV):Bool:=hasSh1 (Sh.list 3) (x.cells.getD 0 AV.top)
def ldEA (x:AV):AV:=AV.list 3 (x.cells.getD 0 AV.top).toList
abbrev encA:Row→AV:=encR
noncomputable def cmpPA (x y:AV):Bool:=(xb9 (x.cells.getD 0 AV.top).toList (y.cells.getD 0 AV.top).toList).isSome
noncomputable def cmpVA (x y:AV):Int:=(xb9 (x.cells.getD 0 AV.top).toList (y.cells.getD 0 AV.top).toList).getD 0
theorem ceA (x:Row):(encA x).cells.getD 0 AV.top=encA x:=rfl
theorem shA (x:Row):hasSh1 (Sh.list 3) (encA x)=true:=rfl
theorem tlA (x:Row):(encA x).toList=x.map encV:=rfl
theorem heA (a:Row):okEA (encA a)=true:=rfl
theorem hdA (a:Row):ldEA (encA a)=encA a:=rfl
section
variable {N : Nat} (hN : N ≤ 2 ^ 60) {ok : Row → Prop} {c : Row → Row → Int} (hc : ∀ x y, ok x → ok y → cmpPA (encA x) (encA y) = true ∧ cmpVA (encA x) (encA y) = c x y)
include hN
theorem xyb (a b n:Nat) (l r:List Row) (ha:a≤2 ^ 60) (hb:b≤2 ^ 60) (hn:n≤2 ^ 60) (hl:LOk N ok l) (hr:swr a b n l=some r):xaK N a b n (List.map encA l)=some (List.map encA r)∧LOk N ok r:=by
 obtain ⟨e1,e2⟩:=xyA (okE:=okEA) (ldE:=ldEA) heA hdA hN a b n ha hb hn (g:=xa1 N a b n) (fun i xs=>rfl) hl hr
 refine ⟨?_,e2⟩
 unfold xaK xc7
 rw [e1];rfl
theorem xzS (a m b:Nat) (l r:List Row) (h1:a≤m) (h2:m≤b) (h3:b≤N) (hl:LOk N ok l) (hr:rot a m b l=some r):xa2 N a m b (List.map encA l)=some (List.map encA r)∧LOk N ok r:=by
 unfold rot at hr
 cases hi:Iter (rotStep m) (m - a,b - m,l) with
 | none=>rw [hi] at hr;simp at hr
 | some p =>
  obtain ⟨i,l'⟩:=p
  rw [hi] at hr
  obtain ⟨e1,e2,e3⟩:=xyP (enc:=encA) hN (ok:=ok) (SW:=fun a b n xs=>xaK N a b n xs) (fun a b n l r ha hb hn hl hr=>xyb hN a b n l r ha hb hn hl hr) m (by omega) (g:=xbA N m) (fun i j xs=>rfl) (by omega) (by omega) hl hi
  obtain ⟨e4,e5⟩:=xyb hN (m - i) m i l' r (by omega) (by omega) (by omega) e3 hr
  refine ⟨?_,e5⟩
  simp only [xa2,xdz,xez,xeB,xeI,xeJ,w64 (x:=(m:Int) - (a:Int)) (n:=m - a) (by omega) (by omega),w64 (x:=(b:Int) - (m:Int)) (n:=b - m) (by omega) (by omega),e1,Option.getD_some,Option.isSome_some,xaF,w64 (x:=(m:Int) - (i:Int)) (n:=m - i) (by omega) (by omega),e4]
include hc
theorem xw5 (a b:Nat) (ha:a≤N) (hb:b≤N) {l r:List Row} (hl:LOk N ok l) (hr:insSort c a b l=some r):xaL N a b (List.map encA l)=some (List.map encA r)∧LOk N ok r:=by
 obtain ⟨e1,e2⟩:=xvL (enc:=encA) hN (c:=c) (ok:=ok) a b hb (gi:=fun i=>xaP N a b i) (fun i l r hl hr=>xyQ (okE:=okEA) (ldE:=ldEA) heA hdA hN (P:=cmpPA) (V:=cmpVA) hc a (fun j xs=>rfl) hl hr) (g:=xaQ N a b) (fun i xs=>rfl) hl hr
 refine ⟨?_,e2⟩
 unfold xaL xct
 rw [w64 (x:=(a:Int)+1) (n:=a+1) (by omega) (by omega),e1];rfl
theorem xw3:∀ (f a m b:Nat) (l r:List Row),a<m→m<b→b≤N→LOk N ok l→symM c f a m b l=some r→xaH f N a m b (List.map encA l)=some (List.map encA r)∧LOk N ok r:=by
 intro f
 induction f with
 | zero=>intro a m b l r _ _ _ _ hr;simp [symM] at hr
 | succ f ih =>
  intro a m b l r ham hmb hb hl hr
  unfold symM at hr
  show xas (xaH f) N a m b (List.map encA l)=some (List.map encA r)∧LOk N ok r
  have wma:IntKind.i64.wrap ((m:Int) - (a:Int))=((m - a:Nat):Int):=w64 (by omega) (by omega)
  have wbm:IntKind.i64.wrap ((b:Int) - (m:Int))=((b - m:Nat):Int):=w64 (by omega) (by omega)
  by_cases h1:m - a=1
  · rw [if_pos h1] at hr
    cases hi:Iter (bsStep fun h=>(get2 c l h a).map fun r=>decide (r<0)) (m,b) with
    | none=>rw [hi] at hr;simp at hr
    | some i =>
     rw [hi] at hr
     obtain ⟨e0,b1,b2⟩:=xq7 (okE:=okEA) heA hN (P:=cmpPA) (V:=cmpVA) hc (fun h=>h) (fun _=>a) (fun h=>h) (fun _=>(a:Int)) m b (by omega) (fun _ _ _=>rfl) (fun _ _ _=>rfl) (fun r=>decide (r<0)) (g:=xaR N a) (fun i j xs=>rfl) hl (Nat.le_refl _) (Nat.le_refl _) (by omega) hi
     obtain ⟨e1,e2⟩:=xzK (okE:=okEA) (ldE:=ldEA) heA hdA hN (ok:=ok) (i - 1) i (by omega) (by omega) (g:=xbj N i) (fun k xs=>rfl) hl hr
     refine ⟨?_,e2⟩
     simp only [xas,xaC,xak,xaj,xae,xal,xam,xad,xaf,xag,xab,xac,xan,xap,xao,xaa,xar,xat,xay,xaw,xav,xaB,xaA,xaz,xau,xai,xah,wma,h1,e0,Option.getD_some,Option.isSome_some,xaF,e1,Int.natCast_one,beq_self_eq_true]
  · rw [if_neg h1] at hr
    have d1:(((m - a:Nat):Int)==1)=false:=by simp;omega
    by_cases h2:b - m=1
    · rw [if_pos h2] at hr
      cases hi:Iter (bsStep fun h=>(get2 c l m h).map fun r=>!decide (r<0)) (a,m) with
      | none=>rw [hi] at hr;simp at hr
      | some i =>
       rw [hi] at hr
       obtain ⟨e0,b1,b2⟩:=xq7 (okE:=okEA) heA hN (P:=cmpPA) (V:=cmpVA) hc (fun _=>m) (fun h=>h) (fun _=>(m:Int)) (fun h=>h) a m (by omega) (fun _ _ _=>rfl) (fun _ _ _=>rfl) (fun r=>!decide (r<0)) (g:=xaS N m) (fun i j xs=>rfl) hl (Nat.le_refl _) (Nat.le_refl _) (by omega) hi
       obtain ⟨e1,e2⟩:=xwg (okE:=okEA) (ldE:=ldEA) heA hdA hN (ok:=ok) i (g:=xbo N i) (fun k xs=>rfl) hl hr
       refine ⟨?_,e2⟩
       simp only [xas,xaC,xak,xaj,xae,xal,xam,xad,xaf,xag,xab,xac,xan,xap,xao,xaa,xar,xat,xay,xaw,xav,xaB,xaA,xaz,xau,xai,xah,wma,wbm,d1,h2,e0,Option.getD_some,Option.isSome_some,xaF,xaJ,e1,Int.natCast_one,beq_self_eq_true]
    · rw [if_neg h2] at hr
      have d2:(((b - m:Nat):Int)==1)=false:=by simp;omega
      have hh:IntKind.i64.wrap ((IntKind.u64.wrap (IntKind.i64.wrap ((a:Int)+(b:Int)))).fdiv 2)=(((a+b) / 2:Nat):Int):=half64 (by omega)
      obtain ⟨mid,hmid⟩:∃ mid,mid=(a+b) / 2:=⟨_,rfl⟩
      rw [←hmid] at hr hh
      have w2:IntKind.i64.wrap ((mid:Int)+(m:Int))=((mid+m:Nat):Int):=w64 (by omega) (by omega)
      have w3:IntKind.i64.wrap (((mid+m:Nat):Int) - 1)=((mid+m - 1:Nat):Int):=w64 (by omega) (by omega)
      obtain ⟨lo,hi,hlh,g1,g2,g3,g4,hst⟩:∃ lo hi,(if mid<m then (mid+m - b,mid) else (a,m))=(lo,hi)∧a≤lo∧lo≤hi∧hi≤m∧hi≤mid∧((mid<m∧lo=mid+m - b∧hi=mid)∨(¬ mid<m∧lo=a∧hi=m)):=by
       by_cases h:mid<m
       · exact ⟨_,_,if_pos h,by omega,by omega,by omega,by omega,.inl ⟨h,rfl,rfl⟩⟩
       · exact ⟨_,_,if_neg h,by omega,by omega,by omega,by omega,.inr ⟨h,rfl,rfl⟩⟩
      rw [hlh] at hr
      cases hs:Iter (bsStep fun h=>(get2 c l (mid+m - 1 - h) h).map fun r=>!decide (r<0)) (lo,hi) with
      | none=>rw [hs] at hr;simp at hr
      | some s =>
       rw [hs] at hr
       dsimp only at hr
       obtain ⟨e0,b1,b2⟩:=xq7 (okE:=okEA) heA hN (P:=cmpPA) (V:=cmpVA) hc (fun h=>mid+m - 1 - h) (fun h=>h) (fun h=>IntKind.i64.wrap (((mid+m - 1:Nat):Int) - h)) (fun h=>h) lo hi (by omega) (fun h _ _=>w64 (by omega) (by omega)) (fun _ _ _=>rfl) (fun r=>!decide (r<0)) (g:=xa4 N a m b mid ((mid+m:Nat):Int) ((mid+m - 1:Nat):Int)) (fun i j xs=>rfl) hl (Nat.le_refl _) (Nat.le_refl _) g2 hs
       have w5:IntKind.i64.wrap (((mid+m:Nat):Int) - (s:Int))=((mid+m - s:Nat):Int):=w64 (by omega) (by omega)
       obtain ⟨e,he⟩:∃ e,e=mid+m - s:=⟨_,rfl⟩
       rw [←he] at hr w5
       cases hrot:(if s<m∧m<e then rot s m e l else some l) with
       | none=>rw [hrot] at hr;simp at hr
       | some l1 =>
        rw [hrot] at hr
        dsimp only at hr
        have k1:(s<m∧m<e∧xa2 N s m e (List.map encA l)=some (List.map encA l1)∧LOk N ok l1)∨(¬ (s<m∧m<e)∧l1=l):=by
         by_cases h:s<m∧m<e
         · rw [if_pos h] at hrot
           obtain ⟨x1,x2⟩:=xzS hN s m e l l1 (by omega) (by omega) (by omega) hl hrot
           exact .inl ⟨h.1,h.2,x1,x2⟩
         · rw [if_neg h] at hrot
           simp only [Option.some.injEq] at hrot
           exact .inr ⟨h,hrot.symm⟩
        have hl1:LOk N ok l1:=by
         rcases k1 with k|k
         · exact k.2.2.2
         · rw [k.2];exact hl
        cases hlf:(if a<s∧s<mid then symM c f a s mid l1 else some l1) with
        | none=>rw [hlf] at hr;simp at hr
        | some l2 =>
         rw [hlf] at hr
         dsimp only at hr
         have k2:(a<s∧s<mid∧xaH f N a s mid (List.map encA l1)=some (List.map encA l2)∧LOk N ok l2)∨(¬ (a<s∧s<mid)∧l2=l1):=by
          by_cases h:a<s∧s<mid
          · rw [if_pos h] at hlf
            obtain ⟨x1,x2⟩:=ih a s mid l1 l2 h.1 h.2 (by omega) hl1 hlf
            exact .inl ⟨h.1,h.2,x1,x2⟩
          · rw [if_neg h] at hlf
            simp only [Option.some.injEq] at hlf
            exact .inr ⟨h,hlf.symm⟩
         have hl2:LOk N ok l2:=by
          rcases k2 with k|k
          · exact k.2.2.2
          · rw [k.2];exact hl1
         have k3:(mid<e∧e<b∧xaH f N mid e b (List.map encA l2)=some (List.map encA r)∧LOk N ok r)∨(¬ (mid<e∧e<b)∧r=l2):=by
          by_cases h:mid<e∧e<b
          · rw [if_pos h] at hr
            obtain ⟨x1,x2⟩:=ih mid e b l2 r h.1 h.2 hb hl2 hr
            exact .inl ⟨h.1,h.2,x1,x2⟩
          · rw [if_neg h] at hr
            simp only [Option.some.injEq] at hr
            exact .inr ⟨h,hr.symm⟩
         refine ⟨?_,?_⟩
         · clear ih hc hl hl1 hl2 hr hlf hrot hs hlh
           rcases hst with ⟨hm,hlo,hhi⟩|⟨hm,hlo,hhi⟩
           · rw [hlo,hhi] at e0
             have w4:IntKind.i64.wrap (((mid+m:Nat):Int) - (b:Int))=((mid+m - b:Nat):Int):=w64 (by omega) (by omega)
             have dm:decide ((m:Int)>(mid:Int))=true:=by simp [hm]
             rcases k1 with ⟨p1,p2,p3,_⟩|⟨p1,rfl⟩<;>rcases k2 with ⟨q1,q2,q3,_⟩|⟨q1,rfl⟩<;>rcases k3 with ⟨r1,r2,r3,_⟩|⟨r1,rfl⟩ <;>
              (by_cases t1:s<m<;>by_cases t2:m<e<;>by_cases t3:a<s<;>by_cases t4:s<mid<;>by_cases t5:mid<e<;>by_cases t6:e<b<;>first|(exfalso;omega) |
               (simp only [xas,xaC,xak,xaj,xae,xal,xam,xad,xaf,xag,xab,xac,xan,xap,xao,xaa,xar,xat,xay,xaw,xav,xaB,xaA,xaz,xau,xai,xah,wma,wbm,d1,d2,hh,w2,w3,w4,dm,e0,w5,Option.getD_some,Option.isSome_some,xaF,xaJ,Int.ofNat_lt,t1,t2,t3,t4,t5,t6,decide_true,decide_false,hm,p3,q3,r3]) |
               (simp only [xas,xaC,xak,xaj,xae,xal,xam,xad,xaf,xag,xab,xac,xan,xap,xao,xaa,xar,xat,xay,xaw,xav,xaB,xaA,xaz,xau,xai,xah,wma,wbm,d1,d2,hh,w2,w3,w4,dm,e0,w5,Option.getD_some,Option.isSome_some,xaF,xaJ,Int.ofNat_lt,t1,t2,t3,t4,t5,t6,decide_true,decide_false,hm,p3,q3]) |
               (simp only [xas,xaC,xak,xaj,xae,xal,xam,xad,xaf,xag,xab,xac,xan,xap,xao,xaa,xar,xat,xay,xaw,xav,xaB,xaA,xaz,xau,xai,xah,wma,wbm,d1,d2,hh,w2,w3,w4,dm,e0,w5,Option.getD_some,Option.isSome_some,xaF,xaJ,Int.ofNat_lt,t1,t2,t3,t4,t5,t6,decide_true,decide_false,hm,p3,r3]) |
               (simp only [xas,xaC,xak,xaj,xae,xal,xam,xad,xaf,xag,xab,xac,xan,xap,xao,xaa,xar,xat,xay,xaw,xav,xaB,xaA,xaz,xau,xai,xah,wma,wbm,d1,d2,hh,w2,w3,w4,dm,e0,w5,Option.getD_some,Option.isSome_some,xaF,xaJ,Int.ofNat_lt,t1,t2,t3,t4,t5,t6,decide_true,decide_false,hm,q3,r3]) |
               (simp only [xas,xaC,xak,xaj,xae,xal,xam,xad,xaf,xag,xab,xac,xan,xap,xao,xaa,xar,xat,xay,xaw,xav,xaB,xaA,xaz,xau,xai,xah,wma,wbm,d1,d2,hh,w2,w3,w4,dm,e0,w5,Option.getD_some,Option.isSome_some,xaF,xaJ,Int.ofNat_lt,t1,t2,t3,t4,t5,t6,decide_true,decide_false,hm,p3]) |
               (simp only [xas,xaC,xak,xaj,xae,xal,xam,xad,xaf,xag,xab,xac,xan,xap,xao,xaa,xar,xat,xay,xaw,xav,xaB,xaA,xaz,xau,xai,xah,wma,wbm,d1,d2,hh,w2,w3,w4,dm,e0,w5,Option.getD_some,Option.isSome_some,xaF,xaJ,Int.ofNat_lt,t1,t2,t3,t4,t5,t6,decide_true,decide_false,hm,q3]) |
               (simp only [xas,xaC,xak,xaj,xae,xal,xam,xad,xaf,xag,xab,xac,xan,xap,xao,xaa,xar,xat,xay,xaw,xav,xaB,xaA,xaz,xau,xai,xah,wma,wbm,d1,d2,hh,w2,w3,w4,dm,e0,w5,Option.getD_some,Option.isSome_some,xaF,xaJ,Int.ofNat_lt,t1,t2,t3,t4,t5,t6,decide_true,decide_false,hm,r3]) |
               (simp only [xas,xaC,xak,xaj,xae,xal,xam,xad,xaf,xag,xab,xac,xan,xap,xao,xaa,xar,xat,xay,xaw,xav,xaB,xaA,xaz,xau,xai,xah,wma,wbm,d1,d2,hh,w2,w3,w4,dm,e0,w5,Option.getD_some,Option.isSome_some,xaF,xaJ,Int.ofNat_lt,t1,t2,t3,t4,t5,t6,decide_true,decide_false,hm]))
           · rw [hlo,hhi] at e0
             have dm:decide ((m:Int)>(mid:Int))=false:=by simp;omega
             rcases k1 with ⟨p1,p2,p3,_⟩|⟨p1,rfl⟩<;>rcases k2 with ⟨q1,q2,q3,_⟩|⟨q1,rfl⟩<;>rcases k3 with ⟨r1,r2,r3,_⟩|⟨r1,rfl⟩ <;>
              (by_cases t1:s<m<;>by_cases t2:m<e<;>by_cases t3:a<s<;>by_cases t4:s<mid<;>by_cases t5:mid<e<;>by_cases t6:e<b<;>first|(exfalso;omega) |
               (simp only [xas,xaC,xak,xaj,xae,xal,xam,xad,xaf,xag,xab,xac,xan,xap,xao,xaa,xar,xat,xay,xaw,xav,xaB,xaA,xaz,xau,xai,xah,wma,wbm,d1,d2,hh,w2,w3,dm,e0,w5,Option.getD_some,Option.isSome_some,xaF,xaJ,Int.ofNat_lt,t1,t2,t3,t4,t5,t6,decide_true,decide_false,hm,p3,q3,r3]) |
               (simp only [xas,xaC,xak,xaj,xae,xal,xam,xad,xaf,xag,xab,xac,xan,xap,xao,xaa,xar,xat,xay,xaw,xav,xaB,xaA,xaz,xau,xai,xah,wma,wbm,d1,d2,hh,w2,w3,dm,e0,w5,Option.getD_some,Option.isSome_some,xaF,xaJ,Int.ofNat_lt,t1,t2,t3,t4,t5,t6,decide_true,decide_false,hm,p3,q3]) |
               (simp only [xas,xaC,xak,xaj,xae,xal,xam,xad,xaf,xag,xab,xac,xan,xap,xao,xaa,xar,xat,xay,xaw,xav,xaB,xaA,xaz,xau,xai,xah,wma,wbm,d1,d2,hh,w2,w3,dm,e0,w5,Option.getD_some,Option.isSome_some,xaF,xaJ,Int.ofNat_lt,t1,t2,t3,t4,t5,t6,decide_true,decide_false,hm,p3,r3]) |
               (simp only [xas,xaC,xak,xaj,xae,xal,xam,xad,xaf,xag,xab,xac,xan,xap,xao,xaa,xar,xat,xay,xaw,xav,xaB,xaA,xaz,xau,xai,xah,wma,wbm,d1,d2,hh,w2,w3,dm,e0,w5,Option.getD_some,Option.isSome_some,xaF,xaJ,Int.ofNat_lt,t1,t2,t3,t4,t5,t6,decide_true,decide_false,hm,q3,r3]) |
               (simp only [xas,xaC,xak,xaj,xae,xal,xam,xad,xaf,xag,xab,xac,xan,xap,xao,xaa,xar,xat,xay,xaw,xav,xaB,xaA,xaz,xau,xai,xah,wma,wbm,d1,d2,hh,w2,w3,dm,e0,w5,Option.getD_some,Option.isSome_some,xaF,xaJ,Int.ofNat_lt,t1,t2,t3,t4,t5,t6,decide_true,decide_false,hm,p3]) |
               (simp only [xas,xaC,xak,xaj,xae,xal,xam,xad,xaf,xag,xab,xac,xan,xap,xao,xaa,xar,xat,xay,xaw,xav,xaB,xaA,xaz,xau,xai,xah,wma,wbm,d1,d2,hh,w2,w3,dm,e0,w5,Option.getD_some,Option.isSome_some,xaF,xaJ,Int.ofNat_lt,t1,t2,t3,t4,t5,t6,decide_true,decide_false,hm,q3]) |
               (simp only [xas,xaC,xak,xaj,xae,xal,xam,xad,xaf,xag,xab,xac,xan,xap,xao,xaa,xar,xat,xay,xaw,xav,xaB,xaA,xaz,xau,xai,xah,wma,wbm,d1,d2,hh,w2,w3,dm,e0,w5,Option.getD_some,Option.isSome_some,xaF,xaJ,Int.ofNat_lt,t1,t2,t3,t4,t5,t6,decide_true,decide_false,hm,r3]) |
               (simp only [xas,xaC,xak,xaj,xae,xal,xam,xad,xaf,xag,xab,xac,xan,xap,xao,xaa,xar,xat,xay,xaw,xav,xaB,xaA,xaz,xau,xai,xah,wma,wbm,d1,d2,hh,w2,w3,dm,e0,w5,Option.getD_some,Option.isSome_some,xaF,xaJ,Int.ofNat_lt,t1,t2,t3,t4,t5,t6,decide_true,decide_false,hm]))
         · rcases k3 with k|k
           · exact k.2.2.2
           · rw [k.2];exact hl2
theorem xwl {l r:List Row} (hl:LOk N ok l) (hr:stable c 1000 N l=some r):xbQ N N (List.map encA l)=some (List.map encA r)∧LOk N ok r:=by
 unfold stable at hr
 cases h1:Iter (stIns c N) (0,20,l) with
 | none=>rw [h1] at hr;simp at hr
 | some p =>
  obtain ⟨a,l1⟩:=p
  rw [h1] at hr
  dsimp only at hr
  obtain ⟨e1,ha,_,hl1⟩:=xrh (enc:=encA) hN (ok:=ok) 20 (by omega) (p:=stIns c N) (F:=fun a b l=>insSort c a b l) (fun a b l l' h e=>by simp only [stIns,h,if_true,e]) (fun a b l h e=>by simp only [stIns,h,if_true,e]) (fun a b l h=>by simp only [stIns,h,if_false]) (G:=fun a b xs=>xaL N a b xs) (fun a b l r hab _ hb hl hr=>xw5 hN hc a b (by omega) hb hl hr) (g:=xax N N 20) (fun a b xs=>rfl) (a:=0) hl h1 (by omega)
  cases h2:insSort c a N l1 with
  | none=>rw [h2] at hr;simp at hr
  | some l2 =>
   rw [h2] at hr
   dsimp only at hr
   obtain ⟨e2,hl2⟩:=xw5 hN hc a N ha (Nat.le_refl _) hl1 h2
   have e3:Iter (xaI N N) (((20:Nat):Int),List.map encA l2)=some (List.map encA r)∧LOk N ok r:=by
    refine xfm (I:=fun s=>1≤s.1∧LOk N ok s.2) (J:=LOk N ok) (e:=fun (s:Nat×List Row)=>((s.1:Int),List.map encA s.2)) (f:=List.map encA) ?_ (s:=(20,l2)) ⟨by omega,hl2⟩ hr
    rintro ⟨bs,l⟩ ⟨hb,hl⟩
    dsimp only at hb hl
    by_cases h:bs<N
    · have wb:IntKind.i64.wrap (2*(bs:Int))=((2*bs:Nat):Int):=w64 (by omega) (by omega)
      have wb':IntKind.i64.wrap ((bs:Int)*2)=((bs*2:Nat):Int):=w64 (by omega) (by omega)
      cases h3:Iter (stMrgIn c 1000 bs N) (0,2*bs,l) with
      | none=>exact xdB (by simp [stMrg,h,h3])
      | some p =>
       obtain ⟨a,l3⟩:=p
       obtain ⟨f1,f2,f3,f4⟩:=xrh (enc:=encA) hN (ok:=ok) (2*bs) (by omega) (p:=stMrgIn c 1000 bs N) (F:=fun a b l=>symM c 1000 a (a+bs) b l) (fun a b l l' h e=>by simp only [stMrgIn,h,if_true,e]) (fun a b l h e=>by simp only [stMrgIn,h,if_true,e]) (fun a b l h=>by simp only [stMrgIn,h,if_false]) (G:=fun a b xs=>xaH 1000 N a (IntKind.i64.wrap (a+(bs:Int))) b xs) (fun a b l r hab hb2 hbN hl hr=>by
        have:=xw3 hN hc 1000 a (a+bs) b l r (by omega) (by omega) hbN hl hr
        rw [w64 (x:=(a:Int)+(bs:Int)) (n:=a+bs) (by omega) (by omega)]
        exact this) (g:=xbd N N bs) (fun a b xs=>by rw [←wb];rfl) (a:=0) hl (by rw [Nat.zero_add];exact h3) (by omega)
       rw [Nat.zero_add,←wb] at f1
       have f1':Iter (xbd N N bs) ((0:Int),IntKind.i64.wrap (2*(bs:Int)),List.map encA l)=some ((a:Int),List.map encA l3):=f1
       have wab:IntKind.i64.wrap ((a:Int)+(bs:Int))=((a+bs:Nat):Int):=w64 (by omega) (by omega)
       by_cases h4:a+bs<N
       · cases h5:symM c 1000 a (a+bs) N l3 with
         | none=>exact xdB (by simp [stMrg,h,h3,h4,h5])
         | some l4 =>
          obtain ⟨f5,f6⟩:=xw3 hN hc 1000 a (a+bs) N l3 l4 (by omega) h4 (Nat.le_refl _) f4 h5
          refine xhi (s0:=(bs*2,l4)) (by simp [stMrg,h,h3,h4,h5]) ?_ ⟨by dsimp only;omega,f6⟩
          have q1:(bs:Int)<(N:Int):=by omega
          have q2:((a+bs:Nat):Int)<(N:Int):=by omega
          simp only [xaI,xbV,xcX,xcR,xcV,xcS,xcW,xcx,f1',q1,q2,decide_true,xaF,Option.isSome_some,Option.getD_some,wab,f5,wb']
       · refine xhi (s0:=(bs*2,l3)) (by simp [stMrg,h,h3,h4]) ?_ ⟨by dsimp only;omega,f4⟩
         have q1:(bs:Int)<(N:Int):=by omega
         have q2:¬ ((a+bs:Nat):Int)<(N:Int):=by omega
         simp only [xaI,xbV,xcX,xcR,xcV,xcS,xcW,xcx,f1',q1,q2,decide_true,decide_false,xaF,xaJ,Option.isSome_some,Option.getD_some,wab,wb']
    · refine xhf (r0:=l) (by simp [stMrg,h]) ?_ hl
      have q1:¬ (bs:Int)<(N:Int):=by omega
      simp only [xaI,xbV,q1,decide_false,xaJ]
   have e1':Iter (xax N N 20) ((0:Int),(20:Int),List.map encA l)=some ((a:Int),List.map encA l1):=e1
   have e3':Iter (xaI N N) ((20:Int),List.map encA l2)=some (List.map encA r):=e3.1
   refine ⟨?_,e3.2⟩
   simp only [xbQ,xdy,xeC,xey,xeL,e1',e2,e3',Option.isSome_some,Option.getD_some,xaF]
end
theorem xzL {N:Nat} (hN:N*24≤140737488355328) (l:List Row) (hl:l.length=N) (hr:∀ x,x∈l→x.length≤4398046511104):∀ (k i:Nat),i+k=N→Iter (xba (List.map encA l) N) (i,(i:Int),List.map encA (l.take i))=some (N,List.map encA l):=by
 intro k
 induction k with
 | zero =>
  intro i hi
  refine xaZ ?_
  have:¬ (i:Int)<(N:Int):=by omega
  simp only [xba,xdT,this,decide_false,xaJ]
  rw [List.take_of_length_le (by omega),show i=N by omega]
 | succ k ih =>
  intro i hi
  have hil:i<l.length:=by omega
  refine xca (s':=(i+1,((i+1:Nat):Int),List.map encA (l.take (i+1)))) ?_ (ih (i+1) (by omega))
  have hx:l[i]?=some l[i]:=by simp [hil]
  have k1:(i:Int)<(N:Int):=by omega
  have k2:(i:Int)<((List.map encA l).length:Int):=by simp;omega
  have k2':(i:Int)<(l.length:Int):=by omega
  have k3:i<(List.map encA l).length:=by simpa using hil
  have k4:=hr l[i] (List.getElem_mem hil)
  have k5:(List.map encA (l.take i)).length=i:=by simp;omega
  have k6:(i+1)*24≤140737488355328:=by omega
  have k7:i+1≤4611686018427387904:=by omega
  have k8:List.map encA (l.take (i+1))=List.map encA (l.take i)++[AV.list 3 (l[i].map encV)]:=by
   rw [List.take_add_one,hx,List.map_append];rfl
  simp only [xba,xdT,k1,k2,k2',k3,hil,decide_true,xaF,Int.natCast_nonneg,Bool.and_true,Bool.true_and,Int.toNat_natCast,gR hx,ceA,shA,tlA,List.length_map,k4,k5,beq_self_eq_true,k6,k7,w64 (x:=(i:Int)+1) (n:=i+1) (by omega) (by omega),k8]
theorem xwt {N:Nat} (hN:N*24≤140737488355328) {c:Row→Row→Int} (hc:∀ x y:Row,x.length≤4398046511104→y.length≤4398046511104→cmpPA (encA x) (encA y)=true∧cmpVA (encA x) (encA y)=c x y) (l r:List Row) (hl:l.length=N) (ho:∀ x,x∈l→x.length≤4398046511104) (hr:stable c 1000 N l=some r) :
  xfl (List.map encA l)=some (List.map encA r):=by
 obtain ⟨e1,e2⟩:=xwl (N:=N) (by omega) (ok:=fun x=>x.length≤4398046511104) hc ⟨hl,ho⟩ hr
 have e0:=xzL hN l hl ho N 0 (by omega)
 have e0':Iter (xba (List.map encA l) (N:Int)) (0,(0:Int),[])=some (N,List.map encA l):=e0
 have k1:(List.map encA l).length=N:=by simpa using hl
 have k2:(24:Int)*(N:Int)≤281474976710656:=by omega
 have k3:(N:Int)≤4611686018427387904:=by omega
 have k4:0+N≤(List.map encA r).length:=by simp;exact Nat.le_of_eq e2.len.symm
 have k4':N≤r.length:=Nat.le_of_eq e2.len.symm
 have k5:List.take N (List.map encA r)=List.map encA r:=List.take_of_length_le (by simp;exact Nat.le_of_eq e2.len)
 simp only [xfl,xh8,xdW,xfV,xg3,xgU,xfy,xg1,k1,e0',xcr,xdp,e1,k2,k3,k4,k4',decide_true,List.length_map,Bool.true_and,Bool.and_true,xaF,Option.isSome_some,Option.getD_some,List.drop_zero,Nat.zero_add,k5,Int.natCast_nonneg]
 try simp
end Go.Sim.M
end
noncomputable section
set_option maxRecDepth 100000
namespace Go.Sim.M
open Go.RowKit Go.Sim.Srt
def Short (l:List Row):Prop:=l.length≤1048576∧∀ x,x∈l→x.length≤1048576
theorem Short.perm {l l':List Row} (h:Short l) (hp:l'.Perm l):Short l':=⟨by rw [hp.length_eq];exact h.1,fun x hx=>h.2 x (hp.mem_iff.1 hx)⟩
theorem xyF {n f:Nat} (h:n≤1048576) (hf:20≤f):n≤2 ^ f:=Nat.le_trans h (Nat.pow_le_pow_right (n:=2) (by omega) hf:2 ^ 20≤2 ^ f)
theorem xzc (x y:Row) (hx:x.length≤4398046511104):cmpPA (encA x) (encA y)=true∧cmpVA (encA x) (encA y)=cmpR x y:=by
 unfold cmpPA cmpVA
 rw [ceA,ceA,tlA,tlA,xtF x y (by unfold maxLen;omega)]
 exact ⟨rfl,rfl⟩
theorem xyz (l:List Row) (h:Short l):∃ r,xfl (l.map encR)=some (r.map encR)∧r.Perm l∧Sorted cmpR r:=by
 obtain ⟨r,e,p,s⟩:=(fun F (hF:20≤F)=>xrI xww.ord F l.length (xyF h.1 hF) l rfl) 1000 (by decide)
 exact ⟨r,xwt (N:=l.length) (by have:=h.1;omega) (c:=cmpR) (fun x y hx hy=>xzc x y hx) l r rfl (fun x hx=>by have:=h.2 x hx;omega) e,p,s⟩
end Go.Sim.M
end
noncomputable section
set_option maxRecDepth 100000
namespace Go.Sim.M
open Go.RowKit Go.Sim.Srt
deriving instance DecidableEq for Fc
theorem xy5 {α:Type} [DecidableEq α] {step:Int→Option (Int⊕(Bool×Bool×Unit))} (a b:List α) (hl:a.length=b.length)
  (hs:∀ (n:Nat) (h1:n<a.length) (h2:n<b.length),step (n:Int)=if a[n]=b[n] then some (.inl ((n+1:Nat):Int)) else some (.inr (true,false,())))
  (he:step (a.length:Int)=some (.inr (false,false,()))):Iter step (0:Int)=some (if a=b then (false,false,()) else (true,false,())):=by
 have key:∀ d n:Nat,n+d=a.length→Iter step (n:Int)=some (if a.drop n=b.drop n then (false,false,()) else (true,false,())):=by
  intro d
  induction d with
  | zero =>
   intro n h
   have:n=a.length:=by omega
   subst this
   rw [List.drop_eq_nil_of_le (Nat.le_refl _),List.drop_eq_nil_of_le (by omega)]
   exact xaZ he
  | succ d ih =>
   intro n h
   have h1:n<a.length:=by omega
   have h2:n<b.length:=by omega
   have:=hs n h1 h2
   have e:a.drop n=b.drop n↔a[n]=b[n]∧a.drop (n+1)=b.drop (n+1):=by rw [xfP h1,xfP h2,List.cons.injEq]
   by_cases hc:a[n]=b[n]
   · rw [if_pos hc] at this
     rw [xed this,ih (n+1) (by omega)]
     by_cases hr:a.drop (n+1)=b.drop (n+1)
     · rw [if_pos hr,if_pos (e.2 ⟨hc,hr⟩)]
     · rw [if_neg hr,if_neg fun h=>hr (e.1 h).2]
   · rw [if_neg hc] at this
     rw [xaZ this,if_neg fun h=>hc (e.1 h).1]
 have:=key a.length 0 (by omega)
 simpa using this
theorem cmp0 (x y:Row):(cmpR x y==0)=decide (x=y):=by
 by_cases h:x=y
 · subst h;simp [xvw]
 · have:cmpR x y≠0:=fun e=>h (xmC e)
   simp [h,this]
theorem xkH (a b:List Row) (hl:a.length=b.length) (ha:a.length≤1048576) (hr:∀ f,f∈a→f.length≤maxLen):Iter (xa9 (a.map encR) (b.map encR)) (0:Int)=some (if a=b then (false,false,()) else (true,false,())):=by
 refine xy5 a b hl (fun n h h2=>?_) ?_
 · have h1:(n:Int)<(a.length:Int):=by omega
   have h3:(n:Int)<(b.length:Int):=by omega
   have gf:(a.map encR).getD n .top=encR a[n]:=xco _ _ _ h
   have gg:(b.map encR).getD n .top=encR b[n]:=xco _ _ _ h2
   have hm:=hr a[n] (List.getElem_mem h)
   simp only [xa9,xdS,List.length_map,xaF,xaJ,decide_true,decide_false,Bool.and_true,Bool.true_and,Bool.not_true,Bool.not_false,Int.toNat_natCast,Int.natCast_nonneg,Option.isSome_some,Option.getD_some,beq_self_eq_true,Nat.zero_add,Nat.sub_zero,h,h1,h2,h3,gf,gg,cR0,sR0,xzt _ _ hm,cmp0,wrapS (n:=n) (by omega)]
   by_cases he:a[n]=b[n]<;>simp [he,xaF,xaJ,xdR]
 · simp only [xa9,xdS,List.length_map,Int.lt_irrefl,decide_false,xaJ]
theorem xrv (a b:List Row) (ha:a.length≤1048576) (hr:∀ f,f∈a→f.length≤maxLen):xdY (a.map encR) (b.map encR)=some (decide (a=b)):=by
 unfold xdY xfW
 by_cases hl:a.length=b.length
 · simp only [List.length_map,hl,bne_self_eq_false,xaJ]
   rw [xkH a b hl ha hr]
   by_cases h:a=b<;>simp [h,xaF,xaJ]
 · have h:a≠b:=fun e=>hl (by rw [e])
   have h2:((a.length:Int) != (b.length:Int))=true:=by simp;omega
   simp [h,h2,xaF]
def atL (l:List Fc) (t:Int):List Row:=l.flatMap fun f=>if hasP f.p t=true then [f.r] else []
theorem xzk (l:List Fc) (t:Int):(atL l t).length≤l.length:=by
 have:=xjY (g:=fun f:Fc=>if hasP f.p t=true then [f.r] else []) (c:=1) l fun f _=>by split<;>simp
 unfold atL;omega
theorem xzj {l:List Fc} {t:Int} {r:Row} (h:r∈atL l t):∃ f,f∈l∧f.r=r∧hasP f.p t=true:=by
 obtain ⟨f,hf,h⟩:=List.mem_flatMap.1 h
 split at h
 · rename_i hp
   simp only [List.mem_singleton] at h
   exact ⟨f,hf,h.symm,hp⟩
 · simp at h
theorem xpP (l:List Fc) (t:Int) (r:Row):(atL l t).count r=cnt l r t:=by
 induction l with
 | nil=>rfl
 | cons f l ih =>
  have e1:atL (f::l) t=(if hasP f.p t=true then [f.r] else [])++atL l t:=rfl
  have e2:cnt (f::l) r t=cnt l r t+if (decide (f.r=r)&&hasP f.p t)=true then 1 else 0:=List.countP_cons
  rw [e1,List.count_append,ih,e2]
  by_cases hp:hasP f.p t=true
  · by_cases hr:f.r=r<;>simp [hp,hr]<;>omega
  · simp [hp]
theorem xwm {l l':List Fc} {t t':Int} (h:∀ r,cnt l r t=cnt l' r t'):(atL l t).Perm (atL l' t'):=List.perm_iff_count.2 fun r=>by rw [xpP,xpP,h]
def Few (l:List Fc):Prop:=l.length≤1048576∧∀ f,f∈l→f.r.length≤1048576
theorem Few.at {l:List Fc} (h:Few l) (t:Int):Short (atL l t):=⟨Nat.le_trans (xzk l t) h.1,fun x hx=>by obtain ⟨f,hf,rfl,_⟩:=xzj hx;exact h.2 f hf⟩
theorem xyv (l:List Fc) (t:Int) (h:Few l):∃ r,xd5 (l.map encF) t=some (r.map encR)∧r.Perm (atL l t)∧Sorted cmpR r:=by
 obtain ⟨r,e,p,s⟩:=xyz (atL l t) (h.at t)
 refine ⟨r,?_,p,s⟩
 have:=xl3 t l h.1
 unfold xd5 xhj xiF xiu xiz xiv
 rw [List.length_map,this]
 simp only [List.drop_zero,List.take_of_length_le,Nat.zero_add,List.length_map,Nat.le_refl,decide_true,Bool.and_true,xaF,Option.isSome_some,Option.getD_some]
 rw [show (l.flatMap fun f=>if hasP f.p t=true then [f.r] else [])=atL l t from rfl,e]
 simp only [List.drop_zero,List.take_of_length_le,Nat.zero_add,List.length_map,Nat.le_refl,decide_true,Bool.and_true,xaF,Option.isSome_some,Option.getD_some]
end Go.Sim.M
end
noncomputable section
set_option maxRecDepth 100000
namespace Go.Sim.M
open Go.RowKit Go.Sim.Srt Go.Sort
def ptsF (l:List Fc):List Int:=l.foldl (fun P f=>if pv f.p=true then (if f.p.2<1099511627776 then insI (insI P f.p.1) f.p.2 else insI P f.p.1) else P) [0]
def bnd (f:Fc):List Int:=if pv f.p=true then (if f.p.2<1099511627776 then [f.p.1,f.p.2] else [f.p.1]) else []
theorem xpC (l:List Fc) (f:Fc):ptsF (l++[f])=if pv f.p=true then (if f.p.2<1099511627776 then insI (insI (ptsF l) f.p.1) f.p.2 else insI (ptsF l) f.p.1) else ptsF l:=by simp [ptsF]
theorem xpN:∀ l:List Fc,Asc (ptsF l.reverse)∧∀ x,x∈ptsF l.reverse↔x=0∨x∈l.flatMap bnd
 | []=>⟨List.pairwise_singleton _ _,fun x=>by simp [ptsF]⟩
 | f::l=>by
  have ih:=xpN l
  rw [List.reverse_cons,xpC]
  simp only [List.flatMap_cons,List.mem_append,bnd]
  split
  · split
    · refine ⟨xlc (xlc ih.1 _) _,fun x=>?_⟩
      rw [xjO,xjO,ih.2,List.mem_cons,List.mem_singleton];grind
    · refine ⟨xlc ih.1 _,fun x=>?_⟩
      rw [xjO,ih.2,List.mem_singleton];grind
  · exact ⟨ih.1,fun x=>by rw [ih.2];simp⟩
theorem xhB (l:List Fc):Asc (ptsF l)∧∀ x,x∈ptsF l↔x=0∨x∈l.flatMap bnd:=by
 have:=xpN l.reverse
 rw [List.reverse_reverse] at this
 refine ⟨this.1,fun x=>?_⟩
 rw [this.2]
 simp only [List.mem_flatMap,List.mem_reverse]
theorem xqJ:∀ l:List Fc,(ptsF l.reverse).length≤2*l.length+1
 | []=>by simp [ptsF]
 | f::l=>by
  have ih:=xqJ l
  have h1:=xn0 (ptsF l.reverse) f.p.1
  have h2:=xn0 (insI (ptsF l.reverse) f.p.1) f.p.2
  rw [List.reverse_cons,xpC,List.length_cons]
  split
  · split<;>omega
  · omega
theorem xyK (l:List Fc):(ptsF l).length≤2*l.length+1:=by
 have:=xqJ l.reverse
 rwa [List.reverse_reverse,List.length_reverse] at this
theorem wrapP {n:Nat} (h:n+1≤4611686018427387904):IntKind.i64.wrap (((n+1:Nat):Int) - 1)=(n:Int):=by
 rw [show ((n+1:Nat):Int) - 1=(n:Int) by omega]
 exact w64 rfl (by omega)
theorem xwO {α:Type} (xs:List α) (n:Nat) (v:α) (h:n<xs.length):(xs.set n v).take (n+1)=xs.take n++[v]:=by
 rw [List.set_eq_take_append_cons_drop,if_pos h]
 have:(xs.take n).length=n:=by rw [List.length_take];omega
 rw [List.take_append,this,Nat.add_sub_cancel_left,List.take_of_length_le (by omega)];rfl
theorem xst {α:Type} {xs S:List α} {m i:Nat} (h:xs.drop m=S.drop m) (hi:m≤i):xs[i]?=S[i]?:=by
 have:=congrArg (fun l=>l[i - m]?) h
 simpa [List.getElem?_drop,Nat.add_sub_cancel' hi] using this
theorem xpm (S:List Int) (hN:S.length≤1048576) (hs:S.Pairwise fun x y=>x≤y) (o:Nat):∀ (d q:Nat) (D xs:List Int),o+q+1+d=S.length→D.length≤o+q→xs.length=S.length→xs.take D.length=D→xs.drop (o+q)=S.drop (o+q)→Asc D→(∀ x,x∈D↔x∈S.take (o+q+1)) →
  ∃ (D' xs':List Int),Iter (xa8 S.length o (S.length - o)) ((D.length:Int),((q+1:Nat):Int),xs.map encN)=some ((D'.length:Int),xs'.map encN)∧xs'.length=S.length∧xs'.take D'.length=D'∧Asc D'∧∀ x,x∈D'↔x∈S
 | 0,q,D,xs,h,hD,hx,ht,hd,ha,hm=>by
  refine ⟨D,xs,xaZ ?_,hx,ht,ha,fun x=>?_⟩
  · have i1:¬ ((q+1:Nat):Int)<((S.length - o:Nat):Int):=by omega
    simp only [xa8,xc9,List.length_map,xaF,xaJ,decide_true,decide_false,Bool.and_true,Bool.true_and,Bool.not_true,Bool.not_false,Int.toNat_natCast,Int.natCast_nonneg,Option.isSome_some,Option.getD_some,beq_self_eq_true,Nat.zero_add,Nat.sub_zero,i1]
  · rw [hm,List.take_of_length_le (by omega)]
 | d+1,q,D,xs,h,hD,hx,ht,hd,ha,hm=>by
  have hp:o+q+1<S.length:=by omega
  have hp0:o+q<S.length:=by omega
  have g1:(xs.map encN).getD (o+(q+1)) .top=encN S[o+q+1]:=by
   have:=xst hd (i:=o+q+1) (by omega)
   rw [List.getElem?_eq_getElem (by omega),List.getElem?_eq_getElem hp,Option.some.injEq] at this
   rw [←this];exact xco _ _ _ (by omega)
  have g0:(xs.map encN).getD (o+q) .top=encN S[o+q]:=by
   have:=xst hd (i:=o+q) (by omega)
   rw [List.getElem?_eq_getElem (by omega),List.getElem?_eq_getElem hp0,Option.some.injEq] at this
   rw [←this];exact xco _ _ _ (by omega)
  have i1:((q+1:Nat):Int)<((S.length - o:Nat):Int):=by omega
  have i2:(q:Int)<((S.length - o:Nat):Int):=by omega
  have i3:o+(q+1)<xs.length:=by omega
  have i4:o+q<xs.length:=by omega
  have i5:(D.length:Int)<(S.length:Int):=by omega
  have i6:D.length<xs.length:=by omega
  have hle:S[o+q]≤S[o+q+1]:=List.pairwise_iff_getElem.1 hs _ _ hp0 hp (by omega)
  have tk:S.take (o+q+1+1)=S.take (o+q+1)++[S[o+q+1]]:=by rw [List.take_add_one,List.getElem?_eq_getElem hp];rfl
  by_cases he:S[o+q+1]=S[o+q]
  · rw [xed (s':=((D.length:Int),((q+1+1:Nat):Int),xs.map encN)) ?_]
    · refine xpm S hN hs o d (q+1) D xs (by omega) (by omega) hx ht ?_ ha fun x=>?_
      · have:=congrArg (List.drop 1) hd
        rwa [List.drop_drop,List.drop_drop] at this
      · rw [hm,show o+(q+1)+1=o+q+1+1 by omega,tk,List.mem_append,List.mem_singleton]
        refine ⟨Or.inl,fun hh=>hh.elim id fun hh=>?_⟩
        rw [hh,he]
        exact List.mem_take_iff_getElem.2 ⟨o+q,by omega,rfl⟩
    · have i7:(S[o+q+1] != S[o+q])=false:=by simp [he]
      simp only [xa8,xc9,xeA,List.length_map,xaF,xaJ,decide_true,decide_false,Bool.and_true,Bool.true_and,Bool.not_true,Bool.not_false,Int.toNat_natCast,Int.natCast_nonneg,Option.isSome_some,Option.getD_some,beq_self_eq_true,Nat.zero_add,Nat.sub_zero,i1,wrapP (n:=q) (by omega),i2,i3,i4,g1,g0,cN,sN,i7,wrapS (n:=q+1) (by omega)]
  · rw [xed (s':=(((D++[S[o+q+1]]).length:Int),((q+1+1:Nat):Int),(xs.set D.length S[o+q+1]).map encN)) ?_]
    · refine xpm S hN hs o d (q+1) _ _ (by omega) (by rw [List.length_append];simp;omega) (by rw [List.length_set];exact hx) ?_ ?_ ?_ fun x=>?_
      · rw [List.length_append,List.length_singleton,xwO _ _ _ i6,ht]
      · rw [List.drop_set_of_lt (by omega)]
        have:=congrArg (List.drop 1) hd
        rwa [List.drop_drop,List.drop_drop] at this
      · refine List.pairwise_append.2 ⟨ha,List.pairwise_singleton _ _,fun x hx1 y hy=>?_⟩
        rw [List.mem_singleton] at hy
        obtain ⟨i,hi,rfl⟩:=List.mem_take_iff_getElem.1 ((hm x).1 hx1)
        have:S[i]≤S[o+q]:=by
         rcases Nat.lt_or_ge i (o+q) with h1|h1
         · exact List.pairwise_iff_getElem.1 hs _ _ (by omega) hp0 h1
         · have:i=o+q:=by omega
           subst this;exact Int.le_refl _
        omega
      · rw [show o+(q+1)+1=o+q+1+1 by omega,tk,List.mem_append,List.mem_append,hm]
    · have i7:(S[o+q+1] != S[o+q])=true:=by simp [he]
      simp only [xa8,xc9,xeA,List.length_map,xaF,xaJ,decide_true,decide_false,Bool.and_true,Bool.true_and,Bool.not_true,Bool.not_false,Int.toNat_natCast,Int.natCast_nonneg,Option.isSome_some,Option.getD_some,beq_self_eq_true,Nat.zero_add,Nat.sub_zero,i1,wrapP (n:=q) (by omega),i2,i3,i4,i5,i6,g1,g0,cN,sN,i7,wrapS (n:=q+1) (by omega),wrapS (n:=D.length) (by omega)]
      simp [encN,List.map_set]
theorem xsa (S:List Int) (hN:S.length≤1048576) (hs:S.Pairwise fun x y=>x≤y):∀ (d k:Nat),k+1+d=S.length→Asc (S.take (k+1)) →
  (∃ (D:List Int) (xs:List AV),Iter (xaN S.length) (((k+1:Nat):Int),S.map encN)=some (true,(D.length,xs),[])∧D.length≤xs.length∧xs.take D.length=D.map encN∧Asc D∧∀ x,x∈D↔x∈S) ∨
  (Iter (xaN S.length) (((k+1:Nat):Int),S.map encN)=some (false,(0,[]),S.map encN)∧Asc S)
 | 0,k,h,ha=>by
  refine .inr ⟨xaZ ?_,?_⟩
  · have i1:¬ ((k+1:Nat):Int)<(S.length:Int):=by omega
    simp only [xaN,xc8,List.length_map,xaF,xaJ,decide_true,decide_false,Bool.and_true,Bool.true_and,Bool.not_true,Bool.not_false,Int.toNat_natCast,Int.natCast_nonneg,Option.isSome_some,Option.getD_some,beq_self_eq_true,Nat.zero_add,Nat.sub_zero,i1]
  · rwa [List.take_of_length_le (by omega)] at ha
 | d+1,k,h,ha=>by
  have hk1:k+1<S.length:=by omega
  have hk:k<S.length:=by omega
  have g1:(S.map encN).getD (k+1) .top=encN S[k+1]:=xco _ _ _ hk1
  have g0:(S.map encN).getD k .top=encN S[k]:=xco _ _ _ hk
  have i1:((k+1:Nat):Int)<(S.length:Int):=by omega
  have i2:(k:Int)<(S.length:Int):=by omega
  have i3:((k+1:Nat):Int)≤(S.length:Int):=by omega
  have hle:S[k]≤S[k+1]:=List.pairwise_iff_getElem.1 hs _ _ hk hk1 (by omega)
  have tk:S.take (k+1+1)=S.take (k+1)++[S[k+1]]:=by rw [List.take_add_one,List.getElem?_eq_getElem hk1];rfl
  by_cases he:S[k+1]=S[k]
  · obtain ⟨D,xs,e,h1,h2,h3,h4⟩:=xpm S hN hs (k+1) (S.length - (k+2)) 0 (S.take (k+1)) S (by omega) (by rw [List.length_take];omega) rfl (by rw [List.length_take,Nat.min_eq_left (by omega)]) rfl ha (fun x=>by
     rw [show k+1+0+1=k+1+1 by omega,tk,List.mem_append,List.mem_singleton]
     refine ⟨Or.inl,fun hh=>hh.elim id fun hh=>?_⟩
     rw [hh,he]
     exact List.mem_take_iff_getElem.2 ⟨k,by omega,rfl⟩)
    have tl:(S.take (k+1)).length=k+1:=by rw [List.length_take];omega
    rw [tl] at e
    have e:Iter (xa8 S.length (k+1) (S.length - (k+1))) (((k+1:Nat):Int),(1:Int),S.map encN)=some ((D.length:Int),xs.map encN):=e
    have dl:D.length≤S.length:=by rw [←h1,←h2,List.length_take];omega
    refine .inl ⟨D,List.take D.length (xs.map encN)++(List.replicate (S.length - D.length) (AV.int .i64 0)++List.drop (D.length+(S.length - D.length)) (xs.map encN)),xaZ ?_,?_,?_,h3,h4⟩
    · have i7:(S[k+1]==S[k])=true:=by simp [he]
      have i8:(D.length:Int)≤(S.length:Int):=by omega
      have i9:D.length+(S.length - D.length)≤xs.length:=by omega
      simp only [xaN,xc8,xf4,xfZ,xeE,xev,xcY,xfY,xfX,List.length_map,xaF,xaJ,decide_true,decide_false,Bool.and_true,Bool.true_and,Bool.not_true,Bool.not_false,Int.toNat_natCast,Int.natCast_nonneg,Option.isSome_some,Option.getD_some,beq_self_eq_true,Nat.zero_add,Nat.sub_zero,i1,wrapP (n:=k) (by omega),i2,i3,hk1,hk,g1,g0,cN,sN,i7,e,i8,i9]
    · rw [List.length_append,List.length_take,List.length_map];omega
    · rw [List.take_append_of_le_length (by rw [List.length_take,List.length_map];omega),List.take_take,Nat.min_self,←List.map_take,h2]
  · have hlt:S[k]<S[k+1]:=by omega
    rw [xed (s':=(((k+1+1:Nat):Int),S.map encN)) ?_]
    · refine xsa S hN hs d (k+1) (by omega) ?_
      rw [tk]
      refine List.pairwise_append.2 ⟨ha,List.pairwise_singleton _ _,fun x hx1 y hy=>?_⟩
      rw [List.mem_singleton] at hy
      obtain ⟨i,hi,rfl⟩:=List.mem_take_iff_getElem.1 hx1
      have:S[i]≤S[k]:=by
       rcases Nat.lt_or_ge i k with h1|h1
       · exact List.pairwise_iff_getElem.1 hs _ _ (by omega) hk h1
       · have:i=k:=by omega
         subst this;exact Int.le_refl _
      omega
    · have i7:(S[k+1]==S[k])=false:=by simp [he]
      simp only [xaN,xc8,List.length_map,xaF,xaJ,decide_true,decide_false,Bool.and_true,Bool.true_and,Bool.not_true,Bool.not_false,Int.toNat_natCast,Int.natCast_nonneg,Option.isSome_some,Option.getD_some,beq_self_eq_true,Nat.zero_add,Nat.sub_zero,i1,wrapP (n:=k) (by omega),i2,hk1,hk,g1,g0,cN,sN,i7,wrapS (n:=k+1) (by omega)]
theorem xsz (S:List Int) (hN:S.length≤1048576) (hs:S.Pairwise fun x y=>x≤y):∃ (D:List Int) (xs:List AV),xdo S.length (S.map encN)=some (D.length,xs)∧D.length≤xs.length∧xs.take D.length=D.map encN∧Asc D∧∀ x,x∈D↔x∈S:=by
 unfold xdo xfS xgX xg0 xgW
 by_cases h2:(S.length:Int)<2
 · refine ⟨S,S.map encN,?_,by simp,?_,?_,fun x=>Iff.rfl⟩
   · simp only [h2,decide_true,xaF]
   · rw [List.take_of_length_le (by simp)]
   · match S,h2 with
     | [],_=>exact List.Pairwise.nil
     | [x],_=>exact List.pairwise_singleton _ _
     | x::y::t,h=>simp at h;omega
 · simp only [h2,decide_false,xaJ]
   have h1:Asc (S.take (0+1)):=by
    match S with
    | []=>exact List.Pairwise.nil
    | x::t=>exact List.pairwise_singleton _ _
   rcases xsa S hN hs (S.length - 1) 0 (by omega) h1 with ⟨D,xs,e,a1,a2,a3,a4⟩|⟨e,a3⟩
   · refine ⟨D,xs,?_,a1,a2,a3,a4⟩
     have e:Iter (xaN S.length) ((1:Int),S.map encN)=_:=e
     simp only [e,Option.isSome_some,Option.getD_some,xaF]
   · refine ⟨S,S.map encN,?_,by simp,?_,a3,fun x=>Iff.rfl⟩
     · have e:Iter (xaN S.length) ((1:Int),S.map encN)=_:=e
       simp only [e,Option.isSome_some,Option.getD_some,xaF,xaJ]
     · rw [List.take_of_length_le (by simp)]
theorem xyO (E:List Int):(E.map encN).all isI=true∧∃ S:List Int,srtI (E.map encN)=S.map encN∧S.Perm E∧S.Pairwise fun x y=>x≤y:=by
 have e1:(E.map encN).map AV.toInt=E:=by
  rw [List.map_map];conv=>rhs;rw [←List.map_id E]
  rfl
 refine ⟨?_,pdqL cmpI E,?_,(xhC cmpI swoI E).1,(xrT cmpI swoI E).imp fun {x y} h=>?_⟩
 · rw [List.all_eq_true]
   intro x hx
   obtain ⟨e,he,rfl⟩:=List.mem_map.1 hx
   rfl
 · unfold srtI;rw [e1];rfl
 · rw [xjC] at h
   by_cases h1:y<x
   · rw [if_pos h1] at h;omega
   · omega
theorem xsb (f:Fc):(bnd f).length≤2:=by
 unfold bnd
 by_cases h1:pv f.p=true<;>by_cases h2:f.p.2<1099511627776<;>simp [h1,h2]
theorem xtR (l:List Fc) (hl:l.length≤262144):Iter (xa5 (l.map encF) ((l.length:Nat):Int)) ((1:Nat),(0:Int),[AV.int IntKind.i64 (0:Int)])=some ((0::l.flatMap bnd).length,(0::l.flatMap bnd).map encN):=by
 have bl:∀ k,(((l.take k).flatMap bnd)).length≤2*l.length:=fun k=>by
  have:=xjY (g:=bnd) (l.take k) fun a _=>xsb a
  rw [List.length_take] at this;omega
 have key:=xob (step:=xa5 (l.map encF) ((l.length:Nat):Int)) (fun k=>((((0:Int)::(l.take k).flatMap bnd).length,((k:Nat):Int),((0:Int)::(l.take k).flatMap bnd).map encN):Nat×Int×List AV)) l.length
  ((0::l.flatMap bnd).length,(0::l.flatMap bnd).map encN) (fun k hk=>by
  have i1:(k:Int)<(l.length:Int):=by omega
  have gf:(l.map encF).getD k .top=encF l[k]:=xco _ _ _ hk
  have b:=bl k
  have hD:∀ D:List Int,D.length≤2*l.length+1→xa5 (l.map encF) ((l.length:Nat):Int) (D.length,(k:Int),D.map encN)=some (.inl ((D++bnd l[k]).length,((k+1:Nat):Int),(D++bnd l[k]).map encN)):=fun D hD=>by
   have m1:(D.length+1)*8≤140737488355328:=by omega
   have m2:D.length+1≤4611686018427387904:=by omega
   have m3:(D.length+1+1)*8≤140737488355328:=by omega
   have m4:D.length+1+1≤4611686018427387904:=by omega
   simp only [xa5,xdr,xeo,List.length_map,xaF,xaJ,decide_true,decide_false,Bool.and_true,Bool.true_and,Bool.not_true,Bool.not_false,Int.toNat_natCast,Int.natCast_nonneg,Option.isSome_some,Option.getD_some,beq_self_eq_true,Nat.zero_add,Nat.sub_zero,hk,i1,gf,cF0,cF1,cF2,sF0,sF1,sF2,lF,sF12,sF02,xp6,wrapS (n:=k) (by omega),m1,m2,m3,m4,List.length_append,List.length_singleton]
   cases hv:pv l[k].p with
   | false=>simp [bnd,hv,xaJ]
   | true=>by_cases hf:l[k].p.2<1099511627776<;>simp [bnd,hv,hf,xaF,xaJ,encN]
  have:=hD (0::(l.take k).flatMap bnd) (by rw [List.length_cons];omega)
  rw [this,List.take_add_one,List.getElem?_eq_getElem hk,List.flatMap_append,List.cons_append]
  simp only [Option.toList_some,List.flatMap_cons,List.flatMap_nil,List.append_nil]) (by
  simp only [xa5,xdr,List.length_map,Int.lt_irrefl,decide_false,xaJ,List.take_length]) l.length 0 (by omega)
 exact key
theorem xvp (l:List Fc) (hl:l.length≤262144):xcA (l.map encF)=some ((ptsF l).map encN):=by
 have e0:=xtR l hl
 have b:(l.flatMap bnd).length≤2*l.length:=xjY l fun a _=>xsb a
 obtain ⟨h1,S,h2,h3,h4⟩:=xyO (0::l.flatMap bnd)
 have hn:=h3.length_eq
 rw [List.length_cons] at hn
 obtain ⟨D,xs,e1,a1,a2,a3,a4⟩:=xsz S (by omega) h4
 rw [hn] at e1
 have hD:D=ptsF l:=xtt a3 (xhB l).1 fun x=>by
  rw [a4,h3.mem_iff,(xhB l).2,List.mem_cons]
 subst hD
 have m1:(l.flatMap bnd).length+1<4611686018427387904:=by omega
 have bq:((l.flatMap bnd).length+1).beq ((l.flatMap bnd).length+1)=true:=by simp
 rw [List.length_cons] at e0
 unfold xcA xfz xgm xgs xgA xgf xfh xfb xgq xgz
 simp only [List.length_map,e0,Option.isSome_some,Option.getD_some,xaF,List.length_cons,bq,m1,decide_true,h1,h2,Bool.and_true,e1,Nat.zero_add,a1,List.drop_zero,a2]
end Go.Sim.M
end
noncomputable section
set_option maxRecDepth 100000
namespace Go.Sim.M
open Go.RowKit Go.Sim.Srt
theorem xro {α:Type} {step:Int→Option (Int⊕(Bool×Bool×Unit))} (l:List α) (p:α→Bool)
  (hs:∀ (k:Nat) (h:k<l.length),step (k:Int)=if p l[k]=true then some (.inl ((k+1:Nat):Int)) else some (.inr (true,false,())))
  (he:step (l.length:Int)=some (.inr (false,false,()))):∀ d k:Nat,k+d=l.length→Iter step (k:Int)=some (if (l.drop k).all p=true then (false,false,()) else (true,false,()))
 | 0,k,h=>by
  have:k=l.length:=by omega
  subst this
  rw [List.drop_eq_nil_of_le (Nat.le_refl _),List.all_nil,if_pos rfl]
  exact xaZ he
 | d+1,k,h=>by
  have hk:k<l.length:=by omega
  have:=hs k hk
  have e:(l.drop k).all p=(p l[k]&&(l.drop (k+1)).all p):=by rw [xfP hk];rfl
  rw [e]
  cases hc:p l[k] with
  | true =>
   rw [if_pos hc] at this
   rw [xed this,xro l p hs he d (k+1) (by omega),Bool.true_and]
  | false =>
   rw [if_neg (by rw [hc];simp)] at this
   rw [xaZ this];simp
def few (l:List Fc):Bool:=decide (l.length≤24)&&l.all fun f=>decide (f.r.length≤60)
theorem xzM (l:List Fc):xfN (l.map encF)=some (few l):=by
 have key:xfO (l.map encF) 24=some (few l):=by
  unfold xfO xiO
  by_cases h:(l.length:Int)>24
  · simp only [List.length_map,h,decide_true,xaF]
    have:¬ l.length≤24:=by omega
    simp [few,this]
  · have e:=xro (step:=xbC (l.map encF)) l (fun f=>decide (f.r.length≤60)) (fun k hk=>by
     have hl:l.length≤24:=by omega
     have i1:(k:Int)<(l.length:Int):=by omega
     have gf:(l.map encF).getD k .top=encF l[k]:=xco _ _ _ hk
     simp only [xbC,xfB,List.length_map,xaF,xaJ,decide_true,decide_false,Bool.and_true,Bool.true_and,Bool.not_true,Bool.not_false,Int.toNat_natCast,Int.natCast_nonneg,Option.isSome_some,Option.getD_some,beq_self_eq_true,Nat.zero_add,Nat.sub_zero,hk,i1,gf,cF0,cF1,cF2,sF0,sF1,sF2,lF,sF12,sF02,wrapS (n:=k) (by omega)]
     by_cases h60:l[k].r.length≤60
     · have:¬ (l[k].r.length:Int)>60:=by omega
       simp [h60,this,xaJ]
     · have:(l[k].r.length:Int)>60:=by omega
       simp [h60,this,xaF]) (by
     simp only [xbC,xfB,List.length_map,Int.lt_irrefl,decide_false,xaJ]) l.length 0 (by omega)
    have e:Iter (xbC (l.map encF)) (0:Int)=_:=e
    rw [List.drop_zero] at e
    simp only [List.length_map,h,decide_false,xaJ,e]
    have hl:l.length≤24:=by omega
    cases ha:l.all (fun f=>decide (f.r.length≤60))<;>simp [few,hl,ha,xaF,xaJ]
 unfold xfN xiL
 simp only [key,xvd]
theorem xqD {l:List Fc} (h:few l=true):l.length≤24∧∀ f,f∈l→f.r.length≤60:=by
 simp only [few,Bool.and_eq_true,decide_eq_true_eq,List.all_eq_true] at h
 exact h
theorem xyV {l:List Fc} (h:few l=true):Few l:=by
 obtain ⟨a,b⟩:=xqD h
 exact ⟨by omega,fun f hf=>by have:=b f hf;omega⟩
end Go.Sim.M
end
noncomputable section
set_option maxRecDepth 100000
namespace Go.Sim.M
open Go.RowKit Go.Sim.Srt
def lastP (t:Int) (P:List Int):Int:=P.foldl (fun a x=>if x≤t then x else a) (-1)
theorem xoQ (t:Int) (P:List Int) (x:Int):lastP t (P++[x])=if x≤t then x else lastP t P:=by simp [lastP]
theorem xo7 (t:Int):∀ P:List Int,Asc P.reverse→(∃ x,x∈P∧x≤t)→lastP t P.reverse∈P∧lastP t P.reverse≤t∧∀ x,x∈P→x≤t→x≤lastP t P.reverse
 | [],_,h=>by obtain ⟨x,hx,_⟩:=h;simp at hx
 | y::P,ha,h=>by
  rw [List.reverse_cons] at ha ⊢
  obtain ⟨h1,_,h3⟩:=List.pairwise_append.1 ha
  rw [xoQ]
  by_cases hy:y≤t
  · rw [if_pos hy]
    refine ⟨by simp,hy,fun x hx _=>?_⟩
    rcases List.mem_cons.1 hx with rfl|hx
    · exact Int.le_refl _
    · have:=h3 x (List.mem_reverse.2 hx) y (by simp);omega
  · rw [if_neg hy]
    obtain ⟨x,hx,hxt⟩:=h
    have hx':x∈P:=(List.mem_cons.1 hx).elim (fun e=>absurd (e▸hxt) hy) id
    obtain ⟨i1,i2,i3⟩:=xo7 t P h1 ⟨x,hx',hxt⟩
    exact ⟨by simp [i1],i2,fun z hz hzt=>(List.mem_cons.1 hz).elim (fun e=>absurd (e▸hzt) hy) fun hz=>i3 z hz hzt⟩
theorem xv7 {t:Int} {P:List Int} (ha:Asc P) (h:∃ x,x∈P∧x≤t):lastP t P∈P∧lastP t P≤t∧∀ x,x∈P→x≤t→x≤lastP t P:=by
 have:=xo7 t P.reverse (by rwa [List.reverse_reverse]) (by simpa using h)
 rw [List.reverse_reverse] at this
 simpa using this
theorem xsq {l:List Fc} {x:Int} (h:x∈ptsF l):0≤x∧x<1099511627776:=by
 rcases ((xhB l).2 x).1 h with rfl|h
 · omega
 · obtain ⟨f,hf,hx⟩:=List.mem_flatMap.1 h
   unfold bnd at hx
   split at hx
   · rename_i hv
     have:=xff.1 hv
     split at hx<;>simp at hx<;>omega
   · simp at hx
theorem xu4 {l:List Fc} {a t:Int} (ha:a∈ptsF l) (hat:a≤t) (ht:t<1099511627776) (hm:∀ x,x∈ptsF l→x≤t→x≤a) (r:Row):cnt l r a=cnt l r t:=by
 unfold cnt
 refine List.countP_congr fun f hf=>?_
 have key:hasP f.p a=hasP f.p t:=by
  cases hv:pv f.p with
  | false=>simp [hasP,hv]
  | true =>
   have b:=xff.1 hv
   have m1:f.p.1∈ptsF l:=((xhB l).2 _).2 (.inr (List.mem_flatMap.2 ⟨f,hf,by unfold bnd;rw [if_pos hv];split<;>simp⟩))
   have n1:=hm _ m1
   have n2:f.p.2<1099511627776→f.p.2≤t→f.p.2≤a:=fun h=>hm _ (((xhB l).2 _).2 (.inr (List.mem_flatMap.2 ⟨f,hf,by unfold bnd;rw [if_pos hv,if_pos h];simp⟩)))
   simp only [hasP,hv,Bool.true_and]
   rw [Bool.eq_iff_iff,Bool.and_eq_true,Bool.and_eq_true,decide_eq_true_eq,decide_eq_true_eq,decide_eq_true_eq,decide_eq_true_eq]
   omega
 rw [key]
theorem xwb (l:List AV) (t:Int) (P:List Int) (hP:P.length≤1048576) (ha:Asc P) (hr:∀ x,x∈P→0≤x∧x<1099511627776) :
  Iter (xaE l t (P.map encN)) ((-1:Int),(0:Int))=some (false,(false,0),lastP t P):=by
 have key:=xob (step:=xaE l t (P.map encN)) (fun k=>((lastP t (P.take k),((k:Nat):Int)):Int×Int)) P.length (false,(false,0),lastP t P) (fun k hk=>by
  have i1:(k:Int)<(P.length:Int):=by omega
  have gf:(P.map encN).getD k .top=encN P[k]:=xco _ _ _ hk
  obtain ⟨r1,r2⟩:=hr P[k] (List.getElem_mem hk)
  have r3:¬ P[k]<0:=by omega
  have r4:¬ P[k]≥1099511627776:=by omega
  have tk:lastP t (P.take (k+1))=if P[k]≤t then P[k] else lastP t (P.take k):=by rw [List.take_add_one,List.getElem?_eq_getElem hk];exact xoQ _ _ _
  rw [tk]
  cases k with
  | zero =>
   have i2:¬ ((0:Nat):Int)>0:=by simp
   simp only [xaE,xb5,xaW,xaT,xaU,List.length_map,xaF,xaJ,decide_true,decide_false,Bool.and_true,Bool.true_and,Bool.not_true,Bool.not_false,Int.toNat_natCast,Int.natCast_nonneg,Option.isSome_some,Option.getD_some,beq_self_eq_true,Nat.zero_add,Nat.sub_zero,hk,i1,i2,gf,cN,sN,r3,r4,wrapS (n:=0) (by omega)]
   by_cases h:P[0]≤t<;>simp [h,xaF,xaJ]
  | succ j =>
   have hj:j<P.length:=by omega
   have i2:((j+1:Nat):Int)>0:=by omega
   have i3:(j:Int)<(P.length:Int):=by omega
   have gj:(P.map encN).getD j .top=encN P[j]:=xco _ _ _ hj
   have lt:P[j]<P[j+1]:=List.pairwise_iff_getElem.1 ha _ _ hj hk (by omega)
   have r5:¬ P[j+1]≤P[j]:=by omega
   simp only [xaE,xb5,xaW,xaT,xaU,List.length_map,xaF,xaJ,decide_true,decide_false,Bool.and_true,Bool.true_and,Bool.not_true,Bool.not_false,Int.toNat_natCast,Int.natCast_nonneg,Option.isSome_some,Option.getD_some,beq_self_eq_true,Nat.zero_add,Nat.sub_zero,hk,hj,i1,i2,i3,gf,gj,cN,sN,r3,r4,r5,wrapP (n:=j) (by omega),wrapS (n:=j+1) (by omega)]
   by_cases h:P[j+1]≤t<;>simp [h,xaF,xaJ]) (by
  simp only [xaE,xb5,List.length_map,Int.lt_irrefl,decide_false,xaJ,List.take_length]) P.length 0 (by omega)
 exact key
theorem xqZ (l:List Fc) (t:Int):xcd (l.map encF) t=some true:=by
 unfold xcd xdv
 simp only [xzM,Option.isSome_some,Option.getD_some,xaF]
 cases hf:few l with
 | false=>rfl
 | true =>
  simp only [Bool.not_true,xaJ]
  by_cases h1:t<0
  · simp only [h1,decide_true,xaF]
  · by_cases h2:t≥1099511627776
    · simp only [h1,h2,decide_true,decide_false,xaF,xaJ]
    · have h:=xyV hf
      obtain ⟨f1,f2⟩:=xqD hf
      have ep:=xvp l (by omega)
      have hl:=xyK l
      have ei:=xwb (l.map encF) t (ptsF l) (by omega) (xhB l).1 (fun x hx=>xsq hx)
      obtain ⟨a1,a2,a3⟩:=xv7 (t:=t) (xhB l).1 ⟨0,((xhB l).2 0).2 (.inl rfl),by omega⟩
      have a4:=xsq a1
      obtain ⟨r,e1,p1,s1⟩:=xyv l (lastP t (ptsF l)) h
      obtain ⟨r',e2,p2,s2⟩:=xyv l t h
      have hp:(atL l (lastP t (ptsF l))).Perm (atL l t):=xwm fun r=>xu4 a1 a2 (by omega) a3 r
      obtain rfl:r=r':=xlz xww (fun _ _=>xmC) ((p1.trans hp).trans p2.symm) s1 s2
      have hsh:=(h.at _).perm p1
      have e5:=xrv r r hsh.1 (fun x hx=>by have:=hsh.2 x hx;unfold maxLen;omega)
      rw [decide_eq_true rfl] at e5
      have a5:lastP t (ptsF l)≥0:=a4.1
      simp only [xeK,xeH,xeD,xeF,xew,h1,h2,decide_false,decide_true,xaJ,xaF,ep,ei,e1,e2,e5,a5,Option.isSome_some,Option.getD_some]
end Go.Sim.M
end
noncomputable section
namespace Go.Sim
theorem M.card_constant (l:List M.Fc) (t:Int) (w0:l.length≤maxLen∧∀ y,y∈l→y.wf) (w1:(Lit.int .i64 t).wf=true):M.xcd (l.map M.encF) t=some true:=M.xqZ l t
end Go.Sim
end
noncomputable section
set_option maxRecDepth 10000
namespace Go.Proofs.YtefloaolddjnhaaGreatDoor.coalesceConstant
open Go.ChangeShapes Go.WideShapes Go.ChangeAt Go.RowKit Go.Sim
theorem contract (H:Type) (enc:TypeId×Value→H) (W:World) (base:Nat) (args:Array Value) (ds gs:List (DataW H)) (before:List MemPlace)
  (hval:∀ (j:Nat) t v,Tryz.f7.params[j]?=some t→args[j]?=some v→Value.okWide Tryz.prog W .any base t v)
  (hW:DataW.Whole enc Tryz.prog Tryz.f7.params.toList Rows.coalesceConstantSpec.vars false W args.toList ds gs before) (hL:laidMetH Tryz.prog Rows.coalesceConstantRow.laid W) (hsh:W.ShapedOpen Tryz.prog) :
  Calls Tryz.prog 7 args W fun e W'=>∃ v,e=.returned v∧Rows.coalesceConstantSpec.post enc Tryz.prog Tryz.f7 false true false false W args v W':=by
 have hW':=hW
 obtain ⟨p,q,hA0,hV,rfl,hfz,hnd⟩:=hW
 have hA:DataW.TrodAll enc Tryz.prog W 0 (fun _=>true) true Tryz.f7.params.toList args.toList ds p:=hA0
 have hAk:=hA
 rw [Tryz.params7] at hA hval
 obtain ⟨v0,vs0,d0,ds0,p0,q0,hargs,rfl,rfl,h0,r0⟩:=trodAll_cons hA
 obtain ⟨v1,vs1,d1,ds1,p1,q1,rfl,rfl,rfl,h1,r1⟩:=trodAll_cons r0
 obtain ⟨rfl,rfl,rfl⟩:=trodAll_nil r1
 obtain rfl:args=#[v0,v1]:=by cases args;simp_all
 obtain ⟨rfl,rfl⟩:=trodVars_none hV
 obtain ⟨a0,rr0,b0,w0⟩:=xsB (hval 0 22 v0 rfl rfl) h0
 obtain ⟨a1,rr1,b1,w1⟩:=xwL (hval 1 3 v1 rfl rfl) h1
 clear hA0
 have hI:ITryz W:=xzO rfl (by kernel_rfl) hL hsh
 have hpl:=M.card_constant a0 a1 w0 w1
 have hg:Sim.Good Tryz.prog ITryz 7 [.list 3 (a0.map M.encF),.int .i64 a1] (.bool true):=M.xjV _ _ (by
  show some (_,AV.bool _)=_
  rw [hpl];rfl)
 have hrc:RC W (fun _=>False) noBox [v0,v1] [.list 3 (a0.map M.encF),.int .i64 a1]:=by
  refine ⟨rfl,fun i hi=>?_⟩
  match i,hi with
  | 0,_=>exact rr0
  | 1,_=>exact rr1
 refine (hg.2 W (fun _=>False) _ hI (fun _ h=>h.elim) hrc).mono fun e W' ⟨v,he,hb,hr⟩=>?_
 subst he
 obtain rfl:=hr.bool_inv
 exact ⟨_,rfl,xuV rfl hW' ⟨rfl,rfl,rfl⟩ rfl Tryz.underlying4 (by simpa using xlN laidTryz hb (by kernel_rfl) hAk) hb⟩
noncomputable def wit:Array Value:=#[.slice none 0 0,.int .i64 0]
theorem laid_met (os:Os):laidMet Tryz.prog Rows.coalesceConstantRow.laid ((laidWorld Tryz.prog Rows.coalesceConstantRow.laid os).forCall (fun _ _=>0) ⟨#[],wit,[]⟩).memory :=
 laidMet_of_run3 8 (by kernel_rfl) (by kernel_rfl) (by kernel_rfl)
theorem reads (os:Os) {H:Type} (enc:TypeId×Value→H):∃ places,DataW.whole enc Tryz.prog ((laidWorld Tryz.prog Rows.coalesceConstantRow.laid os).forCall (fun _ _=>0) ⟨#[],wit,[]⟩).memory Tryz.f7.params.toList Rows.coalesceConstantSpec.vars false wit.toList 8=some ([.nil,.lit (.int .i64 0)],[],places) :=
 ⟨[],by kernel_rfl⟩
set_option maxRecDepth 100000 in
theorem lifted (os:Os) (started:os.Started) (H:Type) (enc:TypeId×Value→H) (F:Stop.Interp) :
  ReturnsInHanded {} Tryz.checked os 7 .any ((OpenSpec.ofChange Rows.coalesceConstantSpec).preRow enc Tryz.prog Tryz.f7 Rows.coalesceConstantRow.domain false Rows.coalesceConstantRow.laid) (((OpenSpec.ofChange Rows.coalesceConstantSpec).at F).post enc Tryz.prog Tryz.f7 false true false false):=by
 obtain ⟨places,hx⟩:=reads os enc
 refine returnsInHanded_of_row (C:=Tryz.checked) (s:=OpenSpec.ofChange Rows.coalesceConstantSpec) ownTryz started (by kernel_rfl) Tryz.func7
  (witness_row_at (enc:=enc) (C:=Tryz.checked) false (laidWorld Tryz.prog Rows.coalesceConstantRow.laid os) wit rfl (by kernel_rfl) (by kernel_rfl) (by kernel_rfl)
   (OpenSpec.preRow_of_cond 8 hx (by kernel_rfl) (fun k hk=>by cases hk) (by kernel_rfl) (laid_met os))) ?_
 intro W base args ds gs before hval hW _ _ _ hL hsh _
 exact contract H enc W base args ds gs before hval hW hL hsh
theorem said:Rows.CoalesceConstantSaid :=
 OpenClaim.holds_of_cond 7 Tryz.f7 rfl rfl rfl rfl rfl rfl rfl ⟨rfl,rfl,rfl,rfl,rfl⟩ rfl rfl rfl rfl rfl (by kernel_rfl) Tryz.func7 (by kernel_rfl)
  (of_decide_eq_true (by kernel_rfl)) (by unfold Func.isWrapper;first|(rw [if_pos (by decide +kernel)];kernel_rfl)|(rw [if_neg (by decide +kernel)];exact ⟨rfl,rfl⟩))
  (fun os started H enc _ F=>by rw [OpenClaim.pre_eq_preRow];exact lifted os started H enc F)
theorem plain (f:FuncId) (fn:Func) (hf:Tryz.pinned.checked.prog.funcNamed "bitemporal/bitemporallaw22.CoalesceConstant" = some f) (hfn:Tryz.pinned.checked.prog.funcs[f]?=some fn) :
  false=Tryz.pinned.checked.prog.looks []∧∀ (j:Nat) t,fn.params[j]?=some t→Tryz.pinned.checked.prog.wantsStandIn t=false:=by
 obtain rfl:f=7:=Option.some.inj ((show Tryz.prog.funcNamed "bitemporal/bitemporallaw22.CoalesceConstant" = some 7 by kernel_rfl).symm.trans hf) |>.symm
 obtain rfl:fn=Tryz.f7:=(Option.some.inj (Tryz.func7.symm.trans hfn)).symm
 refine ⟨by kernel_rfl,fun j t ht=>?_⟩
 rw [Tryz.params7] at ht
 have hm:=Array.mem_of_getElem? ht
 have:([22,3]:List Nat).all (fun t=>!(Tryz.prog.wantsStandIn t))=true:=by kernel_rfl
 have:=List.all_eq_true.1 this t (by simpa using hm)
 show Tryz.prog.wantsStandIn t=false
 simpa using this
theorem card:Rows.CoalesceConstantCardSaid :=
 Claim7.holds_tied_plain_at .later [] _ _ _ _ said (fun _ h=>by cases h) (by kernel_rfl) (fun _ h=>by cases h) coalesceConstant_row_tie rfl ⟨rfl,rfl⟩ (by kernel_rfl) rfl plain (by kernel_rfl)
end Go.Proofs.YtefloaolddjnhaaGreatDoor.coalesceConstant
end
