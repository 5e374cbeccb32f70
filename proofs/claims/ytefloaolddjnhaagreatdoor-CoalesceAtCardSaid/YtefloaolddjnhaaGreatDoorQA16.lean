/- Part 16 of the proof: DoorF, PlX, PlU, PlC, PlT, PlO, StB, SrA, PlS, PlE, PlA, PlZ, CardAt. -/
import Derived.Test.YtefloaolddjnhaaGreatDoorQA15
import Derived.Test.YtefloaolddjnhaaGreatDoorCards
import Derived.Test.YtefloaolddjnhaaGreatDoorTie
import Derived.ChangeMaps5
import Derived.Deep.DeepHandedRow
import Derived.Stop.LaidErr
import Derived.Deep.DeepLaidRun
set_option linter.unusedVariables false
set_option linter.unusedSimpArgs false
set_option linter.unnecessarySimpa false
set_option linter.unusedSectionVars false
noncomputable section
set_option maxRecDepth 10000
namespace Go.Sim
open Go.RowKit Go.Proofs Go.ChangeShapes Go.WideShapes Go.ChangeAt
theorem xwn {P:Program} {w:World} (h:w.ShapedOpen P) (hg:P.globals.size<P.low):P.low≤w.heap.size:=by
 obtain ⟨o,o₀,h1,_,_⟩:=h.2 (P.low - 1) (by omega) (by unfold Program.low at hg ⊢;omega)
 rcases Nat.lt_or_ge (P.low - 1) w.heap.size with h'|h'
 · omega
 · rw [Array.getElem?_eq_none h'] at h1;simp at h1
def cellsOfData:DataW Unit→List Value
 | .lit (.int k n)=>[.int k n]
 | .agg l=>l.flatMap fun d=>match d with
  | .lit (.int k n)=>[.int k n]
  | .agg l'=>l'.flatMap fun d'=>match d' with
   | .lit (.int k n)=>[.int k n]
   | _=>[]
  | _=>[]
 | _=>[]
noncomputable def laidHeap (P:Program):List (String×DataW Unit)→Array Obj→Array Obj
 | [],h=>h
 | x::r,h=>laidHeap P r (match P.globalNamed x.1 with
  | some g=>h.modify g fun o=>match o with
   | .cells _ t frozen=>.cells (cellsOfData x.2).toArray t frozen
   | o=>o
  | none=>h)
noncomputable def laidWorld (P:Program) (laid:List (String×DataW Unit)) (os:Os):World :=
 { World.holding P os ⟨#[],#[],[]⟩ with heap:=laidHeap P laid (World.holding P os ⟨#[],#[],[]⟩).heap }
theorem xBx {H:Type} {enc:TypeId×Value→H} {P:Program} {f:Func} {s:ChangeSpec} {W W':World} {args:Array Value} {ds:List (DataW H)} {before:List MemPlace} {tb:TypeId} (hs:s.vars=[])
  (hW:DataW.Whole enc P f.params.toList s.vars false W args.toList ds [] before) (hfn:(s.fn H ds).results=[.lit (.bool true)]∧(s.fn H ds).args=ds∧(s.fn H ds).vars=[]) (hrt:f.resultTypes=#[tb]) (htb:P.underlying tb=some .bool)
  (hargs:DataW.TrodAll enc P W' 0 (fun b=>decide (b<W.heap.size)) true f.params.toList args.toList ds before) (hb:Below W.heap.size W W'):s.post enc P f false true false false W args (.bool true) W':=by
 refine ⟨ds,[],before,[],before,[],hW,?_,?_,?_,hb.frame _,fun h=>by simp at h⟩
 · simp only [List.append_nil,hfn.1,hrt]
   exact trodAll_cons_mk (shut_bool htb _) trodAll_mk0
 · simpa [hfn.2.1] using hargs
 · simp only [List.append_nil,hfn.2.2,hs];rfl
theorem xpe {H:Type} {enc:TypeId×Value→H} {P:Program} {W W':World} (hl:laidOutB P=true) (hb:Below W.heap.size W W'):∀ {ts:List TypeId} {vs:List Value} {ds:List (DataW H)} {ps:List MemPlace},(ts.all fun t=>P.readableRec t&&decide (t<P.types.size))=true →
  DataW.TrodAll enc P W 0 (fun _=>true) true ts vs ds ps→DataW.TrodAll enc P W' 0 (fun b=>decide (b<W.heap.size)) true ts vs ds ps
 | [],vs,ds,ps,_,h=>by
  obtain ⟨rfl,rfl,rfl⟩:=trodAll_nil h
  exact trodAll_mk0
 | t::ts,vs,ds,ps,ht,h=>by
  have hlt:=h.lt
  obtain ⟨v,vs',d,ds',p,q,rfl,rfl,rfl,hd,hr⟩:=trodAll_cons h
  simp only [List.all_cons,Bool.and_eq_true,decide_eq_true_eq] at ht
  exact trodAll_cons_mk (Below.trod hl ht.1.1 ht.1.2 hd hb fun x hx=>hlt x (by simp [hx])) (xpe hl hb ht.2 hr)
section
variable {H : Type} {enc : TypeId × Value → H} {P : Program} {w : World} {base b n : Nat} {sp : Nat → Bool} {held : Bool} {v : Value} {d : DataW H} {ps : List MemPlace} {t : TypeId}
theorem xvH {T:Ty} (hf:flat P n t=some [T]) (hv:v.cells=#[v]) (hd:DataW.Trod enc P w b sp held t v d ps):∃ a,Rel w (fun _=>False) noBox v a∧OfTy T a∧∀ μ:DataW H→Nat,Meas μ→a.wt≤μ d:=by
 obtain ⟨fuel,hf'⟩:=hd
 rw [hv] at hf'
 obtain ⟨ra,ha,hw⟩:=xqC n t [T] hf fuel _ _ hf'
 cases ha with
 | cons h ht r=>cases r with
  | nil=>exact ⟨_,h,ht,fun μ hμ=>by simpa [AV.wts] using hw μ hμ⟩
theorem xzB {e:TypeId} {es:List Ty} (ht:P.underlying t=some (.slice e)) (hf:flat P n t=some [.slice es]) (hval:Value.okWide P w .any base t v) (hd:DataW.Trod enc P w b sp held t v d ps):∃ a,Rel w (fun _=>False) noBox v a∧OfTy (.slice es) a∧∀ μ:DataW H→Nat,Meas μ→a.wt≤μ d:=by
 obtain ⟨x,len,cap,rfl⟩:=okWide_slice ht hval
 exact xvH hf rfl hd
theorem xEJ {k:IntKind} (ht:P.underlying t=some (.int k)) (hval:Value.okWide P w .any base t v) (hd:DataW.Trod enc P w b sp held t v d ps):∃ m,Rel w (fun _=>False) noBox v (.int k m)∧(Lit.int k m).wf=true∧∀ μ:DataW H→Nat,Meas μ→(AV.int k m).wt≤μ d:=by
 obtain ⟨m,rfl⟩:=okWide_int ht hval
 obtain ⟨a,h,hT,hB⟩:=xvH (n:=1) (T:=.int k) (by simp [flat,ht]) rfl hd
 cases hT with
 | int _ m' hw =>
  obtain rfl:m'=m:=by cases h;rfl
  exact ⟨m',h,hw,hB⟩
theorem xq0 {α:Type} {e:α→AV} {wf:α→Prop} {es:List Ty} (hv:∀ x:AV,x.cells.length=es.length→x=elemOf x.cells→(∀ j,j<es.length→OfTy (es.getD j .bool) (x.cells.getD j .top))→∃ a,x=e a∧wf a) {x:AV} (h:OfTy (.slice es) x) :
  ∃ l:List α,x=.list es.length (l.map e)∧l.length≤maxLen∧∀ a,a∈l→wf a:=by
 cases h with
 | slice _ xs hn hl hx =>
  have:∀ xs:List AV,(∀ x,x∈xs→∃ a,x=e a∧wf a)→∃ l:List α,xs=l.map e∧∀ a,a∈l→wf a:=by
   intro xs
   induction xs with
   | nil=>exact fun _=>⟨[],rfl,fun a h=>by simp at h⟩
   | cons x xs ih =>
    intro h
    obtain ⟨a,rfl,ha⟩:=h x (by simp)
    obtain ⟨l,rfl,hl⟩:=ih fun y hy=>h y (by simp [hy])
    exact ⟨a::l,rfl,fun b hb=>(List.mem_cons.1 hb).elim (fun he=>he▸ha) (fun hb=>hl b hb)⟩
  obtain ⟨l,rfl,hw⟩:=this xs fun x hx'=>hv x (hl x hx').1 (hl x hx').2 (fun j hj=>hx x j hx' hj)
  exact ⟨l,rfl,by simpa using hn,hw⟩
end
end Go.Sim
namespace Go.Sim
open Go.RowKit Go.Proofs Go.ChangeShapes Go.WideShapes Go.ChangeAt Go.Proofs.YtefloaolddjnhaaGreatDoor
theorem laidTryz:laidOutB Tryz.prog=true:=by kernel_rfl
theorem ownTryz:ownKnob Tryz.prog.godebug=none:=by kernel_rfl
theorem lowTryz:Tryz.prog.globals.size<Tryz.prog.low:=of_decide_eq_true (by kernel_rfl)
noncomputable def pow10Global:Nat:=(Tryz.prog.globalNamed "internal/strconv.uint64pow10").getD 0
theorem xB8:Rows.laid_internal_strconv_uint64pow10=(Lib.tabData .u64 Lib.pow10Tab:DataW Unit):=by kernel_rfl
theorem xFE {W:World} {r:List (String×DataW Unit)} {a b:String×DataW Unit} (hl:r=[a,b,("internal/strconv.uint64pow10",Rows.laid_internal_strconv_uint64pow10)]) (hp:(r.all fun x=>x.2.handleName?.isNone)=true) (hL:laidMetH Tryz.prog r W) (hsh:W.ShapedOpen Tryz.prog):ITryz W:=by
 rw [MakeChecks.laidMetH_plain _ _ _ hp] at hL
 subst hl
 refine ⟨hsh,xwn hsh lowTryz,?_⟩
 have h:=hL.tail.tail
 rw [xB8] at h
 exact Lib.tabIs_of_head (g:=pow10Global) (t:=(Tryz.prog.globals[pow10Global]?).map (·.type) |>.getD 0) (e:=128) (n:=20) (by kernel_rfl) (by kernel_rfl) (by kernel_rfl) (by kernel_rfl) (by kernel_rfl) (by kernel_rfl) h
def tyV:List Ty:=[.int .i64,.int .i64,.str]
def tyF:List Ty:=[.slice tyV,.int .i64,.int .i64]
theorem xAg:flat Tryz.prog 9 22=some [.slice tyF]:=by kernel_rfl
theorem xDy:flat Tryz.prog 9 40=some [.slice tyV]:=by kernel_rfl
def I64 (n:Int):Prop:=(Lit.int .i64 n).wf=true
def M.Fc.wf (x:M.Fc):Prop:=M.Row.wf x.r∧I64 x.p.1∧I64 x.p.2
theorem xw5 (x:AV) (hl:x.cells.length=tyV.length) (he:x=elemOf x.cells) (hx:∀ j,j<tyV.length→OfTy (tyV.getD j .bool) (x.cells.getD j .top)):∃ a,x=M.encV a∧M.Val.wf a:=by
 generalize x.cells=cs at *
 match cs,hl with
 | [c0,c1,c2],_ =>
  have h0:=hx 0 (by decide)
  have h1:=hx 1 (by decide)
  have h2:=hx 2 (by decide)
  change OfTy (.int .i64) c0 at h0
  change OfTy (.int .i64) c1 at h1
  change OfTy .str c2 at h2
  cases h0 with
  | int _ k hk=>cases h1 with
   | int _ i hi=>cases h2 with
    | str t ht=>exact ⟨⟨k,i,t⟩,he,hk,hi,ht⟩
theorem xC5 {x:AV} (h:OfTy (.slice tyV) x):∃ l:M.Row,x=M.encR l∧M.Row.wf l:=by
 obtain ⟨l,rfl,h1,h2⟩:=xq0 xw5 h
 exact ⟨l,rfl,h1,h2⟩
theorem xC7 (x:AV) (hl:x.cells.length=tyF.length) (he:x=elemOf x.cells) (hx:∀ j,j<tyF.length→OfTy (tyF.getD j .bool) (x.cells.getD j .top)):∃ a,x=M.encF a∧M.Fc.wf a:=by
 generalize x.cells=cs at *
 match cs,hl with
 | [c0,c1,c2],_ =>
  have h0:=hx 0 (by decide)
  have h1:=hx 1 (by decide)
  have h2:=hx 2 (by decide)
  change OfTy (.slice tyV) c0 at h0
  change OfTy (.int .i64) c1 at h1
  change OfTy (.int .i64) c2 at h2
  obtain ⟨l,rfl,hw⟩:=xC5 h0
  cases h1 with
  | int _ k hk=>cases h2 with
   | int _ i hi=>exact ⟨⟨l,(k,i)⟩,he,hw,hk,hi⟩
section
variable {H : Type} {enc : TypeId × Value → H} {w : World} {base b : Nat} {sp : Nat → Bool} {held : Bool} {v : Value} {d : DataW H} {ps : List MemPlace}
theorem xAi (hval:Value.okWide Tryz.prog w .any base 22 v) (hd:DataW.Trod enc Tryz.prog w b sp held 22 v d ps):∃ l:List M.Fc,Rel w (fun _=>False) noBox v (.list 3 (l.map M.encF))∧(∀ μ:DataW H→Nat,Meas μ→(AV.list 3 (l.map M.encF)).wt≤μ d)∧(l.length≤maxLen∧∀ y,y∈l→y.wf):=by
 obtain ⟨a,h,hT,hB⟩:=xzB Tryz.underlying22 xAg hval hd
 obtain ⟨l,rfl,hw⟩:=xq0 (es:=tyF) xC7 hT
 exact ⟨l,h,hB,hw⟩
theorem xDt (hval:Value.okWide Tryz.prog w .any base 40 v) (hd:DataW.Trod enc Tryz.prog w b sp held 40 v d ps):∃ l:M.Row,Rel w (fun _=>False) noBox v (.list 3 (l.map M.encV))∧(∀ μ:DataW H→Nat,Meas μ→(AV.list 3 (l.map M.encV)).wt≤μ d)∧M.Row.wf l:=by
 obtain ⟨a,h,hT,hB⟩:=xzB Tryz.underlying40 xDy hval hd
 obtain ⟨l,rfl,hw⟩:=xq0 (es:=tyV) xw5 hT
 exact ⟨l,h,hB,hw⟩
theorem xDq (hval:Value.okWide Tryz.prog w .any base 3 v) (hd:DataW.Trod enc Tryz.prog w b sp held 3 v d ps):∃ m:Int,Rel w (fun _=>False) noBox v (.int .i64 m)∧(∀ μ:DataW H→Nat,Meas μ→(AV.int .i64 m).wt≤μ d)∧(Lit.int .i64 m).wf=true:=by
 obtain ⟨m,h1,h2,h3⟩:=xEJ Tryz.underlying3 hval hd
 exact ⟨m,h1,h3,h2⟩
end
end Go.Sim
end
noncomputable section
namespace Go.Sim.M
open Go.RowKit Go.Sim.Srt
def Strict {α:Type} (c:α→α→Int) (l:List α):Prop:=l.Pairwise fun x y=>c x y<0
theorem Cm.self {α:Type} {c:α→α→Int} (h:Cm c) (x:α):c x x=0:=by have:=h.swap x x;omega
theorem Strict.nodup {α:Type} {c:α→α→Int} (hc:Cm c) {l:List α} (h:Strict c l):l.Nodup :=
 List.Pairwise.imp (fun {x y} hxy he=>by subst he;rw [hc.self] at hxy;omega) h
theorem Strict.sorted {α:Type} {c:α→α→Int} {l:List α} (h:Strict c l):Sorted c l:=List.Pairwise.imp (fun hxy=>by omega) h
theorem xpm {α:Type} {c:α→α→Int} (hc:Cm c) (h0:∀ x y,c x y=0→x=y) {l m:List α} (hl:Strict c l) (hm:Strict c m) (h:∀ x,x∈l↔x∈m):l=m :=
 xlY hc h0 ((List.perm_ext_iff_of_nodup (hl.nodup hc) (hm.nodup hc)).2 h) hl.sorted hm.sorted
theorem xzK (x y:Int):cmpI x y=if x<y then -1 else if y<x then 1 else 0:=rfl
theorem xrk {p q:Per}:cmpP p q≤0↔p.1<q.1∨p.1=q.1∧p.2≤q.2:=by
 unfold cmpP orI
 simp only [xzK]
 repeat' split
 all_goals omega
theorem xvf (p q:Per):cmpP q p=-(cmpP p q):=by
 unfold cmpP orI
 simp only [xzK]
 repeat' split
 all_goals omega
theorem xFu:Cm cmpP:=⟨xvf,fun x y z h1 h2=>by rw [xrk] at *;omega⟩
theorem xm5 (p q:Per) (h:cmpP p q=0):p=q:=by
 have h1:cmpP p q≤0:=by omega
 have h2:cmpP q p≤0:=by rw [xvf];omega
 rw [xrk] at h1 h2
 exact Prod.ext (by omega) (by omega)
theorem xsO {A:List Per} (h:IsSpan A) (h0:∀ t,inL A t=false):A=[]:=xk9 h xAu fun t=>by rw [h0,xum]
structure IsLevs (N:Int→Nat) (P:List Per):Prop where
 sorted:Sorted cmpP P
 lev:∃ (A:Nat→List Per) (H:Nat),(∀ t,N t≤H)∧(∀ h,IsSpan (A h)∧∀ t,inL (A h) t=decide (h<N t))∧P.Perm ((List.range H).flatMap A)
theorem xj9 (A:Nat→List Per) (H:Nat) (h0:∀ h,H≤h→A h=[]):∀ d,(List.range (H+d)).flatMap A=(List.range H).flatMap A
 | 0=>rfl
 | d+1=>by rw [←Nat.add_assoc,List.range_succ,List.flatMap_append,xj9 A H h0 d,List.flatMap_cons,h0 (H+d) (by omega)];simp
theorem IsLevs.unique {N:Int→Nat} {P P':List Per} (h:IsLevs N P) (h':IsLevs N P'):P=P':=by
 obtain ⟨A,H,h1,h2,h3⟩:=h.lev
 obtain ⟨A',H',h1',h2',h3'⟩:=h'.lev
 obtain rfl:A=A':=funext fun k=>xk9 (h2 k).1 (h2' k).1 fun t=>by rw [(h2 k).2,(h2' k).2]
 have nil:∀ K,(∀ t,N t≤K)→∀ k,K≤k→A k=[]:=fun K hK k hk=>xsO (h2 k).1 fun t=>by rw [(h2 k).2];have:=hK t;simp;omega
 refine xlY xFu xm5 (h3.trans (List.Perm.trans (.of_eq ?_) h3'.symm)) h.sorted h'.sorted
 rcases Nat.le_total H H' with hle|hle
 · have:=xj9 A H (nil H h1) (H' - H)
   rw [show H+(H' - H)=H' by omega] at this
   exact this.symm
 · have:=xj9 A H' (nil H' h1') (H - H')
   rw [show H'+(H - H')=H by omega] at this
   exact this
theorem xEx {A:List Per} {N:Int→Nat} {k:Nat} (hs:IsSpan A) (hN:∀ t,inL A t=decide (k<N t)) {p:Per} (hp:p∈A):(∀ t,p.1≤t→t<p.2→k<N t)∧N (p.1 - 1)≤k∧N p.2≤k:=by
 have hv:=xfK.1 (hs.1 p hp)
 refine ⟨fun t h1 h2=>?_,?_,?_⟩
 · have:inL A t=true:=xhb.2 ⟨p,hp,hs.1 p hp,h1,h2⟩
   rw [hN] at this;simpa using this
 · have:inL A (p.1 - 1)=false:=by
    cases hc:inL A (p.1 - 1) with
    | false=>rfl
    | true =>
     obtain ⟨q,hq,hqv,h1,h2⟩:=xhb.1 hc
     have hne:p≠q:=fun e=>by subst e;omega
     rcases pairwise_mem hs.2 hp hq hne with h|h<;>omega
   rw [hN] at this;simpa using this
 · have:inL A p.2=false:=by
    cases hc:inL A p.2 with
    | false=>rfl
    | true =>
     obtain ⟨q,hq,hqv,h1,h2⟩:=xhb.1 hc
     have hne:p≠q:=fun e=>by subst e;omega
     rcases pairwise_mem hs.2 hp hq hne with h|h<;>omega
   rw [hN] at this;simpa using this
where
 pairwise_mem {l:List Per} (h:l.Pairwise fun p q=>p.2<q.1) {p q:Per} (hp:p∈l) (hq:q∈l) (hne:p≠q):p.2<q.1∨q.2<p.1:=by
  induction l with
  | nil=>simp at hp
  | cons x l ih =>
   obtain ⟨h1,h2⟩:=List.pairwise_cons.1 h
   rcases List.mem_cons.1 hp with e1|hp1
   · rcases List.mem_cons.1 hq with e2|hq1
     · exact absurd (e1.trans e2.symm) hne
     · exact .inl (e1▸h1 q hq1)
   · rcases List.mem_cons.1 hq with e2|hq1
     · exact .inr (e2▸h1 p hp1)
     · exact ih h2 hp1 hq1
def cnt (l:List Fc) (r:Row) (t:Int):Nat:=l.countP fun f=>decide (f.r=r)&&hasP f.p t
def IsRows (l:List Fc) (R:List Row):Prop:=Strict cmpR R∧∀ r,r∈R↔∃ f,f∈l∧f.r=r∧pv f.p=true
theorem xzt {l:List Fc} {r:Row} {t:Int}:0<cnt l r t↔∃ f,f∈l∧f.r=r∧hasP f.p t=true:=by
 unfold cnt
 rw [List.countP_pos_iff]
 simp
theorem xCq {p:Per} (h:pv p=true):hasP p p.1=true:=by
 have:=xfK.1 h
 exact xgI.2 ⟨h,by omega,by omega⟩
theorem xvO {p:Per} {t:Int} (h:hasP p t=true):pv p=true:=(xgI.1 h).1
theorem xsp {l:List Fc} {r:Row}:(∃ f,f∈l∧f.r=r∧pv f.p=true)↔∃ t,0<cnt l r t:=by
 constructor
 · rintro ⟨f,h1,h2,h3⟩
   exact ⟨f.p.1,xzt.2 ⟨f,h1,h2,xCq h3⟩⟩
 · rintro ⟨t,h⟩
   obtain ⟨f,h1,h2,h3⟩:=xzt.1 h
   exact ⟨f,h1,h2,xvO h3⟩
theorem IsRows.unique {l l':List Fc} {R R':List Row} (h:IsRows l R) (h':IsRows l' R') (hc:∀ r t,cnt l r t=cnt l' r t):R=R' :=
 xpm xsU (fun _ _=>xni) h.1 h'.1 fun r=>by rw [h.2,h'.2,xsp,xsp];simp only [hc]
def facts (R:List Row) (L:Row→List Per):List Fc:=R.flatMap fun r=>(L r).map fun p=>⟨r,p⟩
def IsBag (l B:List Fc):Prop:=∃ R L,IsRows l R∧(∀ r,r∈R→IsLevs (cnt l r) (L r))∧B=facts R L
def IsSet (l B:List Fc):Prop:=∃ R L,IsRows l R∧(∀ r,r∈R→IsSpan (L r)∧∀ t,inL (L r) t=decide (0<cnt l r t))∧B=facts R L
theorem xrZ {R:List Row} {L L':Row→List Per} (h:∀ r,r∈R→L r=L' r):facts R L=facts R L':=by
 unfold facts
 induction R with
 | nil=>rfl
 | cons r R ih=>rw [List.flatMap_cons,List.flatMap_cons,h r (by simp),ih fun x hx=>h x (by simp [hx])]
theorem IsBag.unique {l l' B B':List Fc} (h:IsBag l B) (h':IsBag l' B') (hc:∀ r t,cnt l r t=cnt l' r t):B=B':=by
 obtain ⟨R,L,h1,h2,rfl⟩:=h
 obtain ⟨R',L',h1',h2',rfl⟩:=h'
 obtain rfl:=h1.unique h1' hc
 refine xrZ fun r hr=>(h2 r hr).unique ?_
 have:=h2' r hr
 rwa [←show cnt l r=cnt l' r from funext fun t=>hc r t] at this
theorem IsSet.unique {l l' B B':List Fc} (h:IsSet l B) (h':IsSet l' B') (hc:∀ r t,cnt l r t=cnt l' r t):B=B':=by
 obtain ⟨R,L,h1,h2,rfl⟩:=h
 obtain ⟨R',L',h1',h2',rfl⟩:=h'
 obtain rfl:=h1.unique h1' hc
 exact xrZ fun r hr=>xk9 (h2 r hr).1 (h2' r hr).1 fun t=>by rw [(h2 r hr).2,(h2' r hr).2,hc]
theorem IsRows.zero {l:List Fc} {R:List Row} (h:IsRows l R) {r:Row} (hr:r∉R) (t:Int):cnt l r t=0:=by
 cases hc:cnt l r t with
 | zero=>rfl
 | succ n=>exact absurd ((h.2 r).2 (xsp.2 ⟨t,by omega⟩)) hr
def psOf (l:List Fc) (r:Row):List Per:=(l.filter fun f=>decide (f.r=r)&&pv f.p).map (·.p)
theorem xFl (l:List Fc) (r:Row) (t:Int):(psOf l r).countP (hasP · t)=cnt l r t:=by
 unfold psOf cnt
 rw [List.countP_map,List.countP_filter]
 refine List.countP_congr fun f _=>?_
 simp only [Function.comp,Bool.and_eq_true,decide_eq_true_eq]
 constructor
 · rintro ⟨h1,h2,_⟩;exact ⟨h2,h1⟩
 · rintro ⟨h1,h2⟩;exact ⟨h2,h1,xvO h2⟩
theorem xz7 {ps:List Per} {t:Int} {k:Nat} (h1:k<ps.countP (hasP · t)) (h2:ps.countP (hasP · (t - 1))≤k):t∈ps.map (·.1):=by
 have:∃ p,p∈ps∧hasP p t=true∧hasP p (t - 1)=false:=by
  refine Classical.byContradiction fun hn=>?_
  have:ps.countP (hasP · t)≤ps.countP (hasP · (t - 1)):=List.countP_mono_left fun p hp h=>by
   cases hc:hasP p (t - 1) with
   | true=>rfl
   | false=>exact absurd ⟨p,hp,h,hc⟩ hn
  omega
 obtain ⟨p,hp,a,b⟩:=this
 obtain ⟨hv,x,y⟩:=xgI.1 a
 have:¬ p.1≤t - 1:=fun h=>by rw [xgI.2 ⟨hv,h,by omega⟩] at b;cases b
 exact List.mem_map.2 ⟨p,hp,by omega⟩
theorem xE8 {ps A:List Per} {k:Nat} (hs:IsSpan A) (hN:∀ t,inL A t=decide (k<ps.countP (hasP · t))):A.length≤ps.length:=by
 have hn:(A.map (·.1)).Nodup:=by
  unfold List.Nodup
  rw [List.pairwise_map]
  refine List.Pairwise.imp_of_mem (fun {p q} hp hq h=>?_) hs.2
  have:=xfK.1 (hs.1 p hp);omega
 have:(A.map (·.1)) ⊆ ps.map (·.1):=fun t ht=>by
  obtain ⟨p,hp,rfl⟩:=List.mem_map.1 ht
  obtain ⟨a,b,_⟩:=xEx (N:=fun t=>ps.countP (hasP · t)) hs hN hp
  have hv:=xfK.1 (hs.1 p hp)
  exact xz7 (a p.1 (Int.le_refl _) (by omega)) b
 have:=hn.length_le_of_subset this
 simpa using this
theorem IsLevs.len {ps P:List Per} (h:IsLevs (fun t=>ps.countP (hasP · t)) P):P.length≤ps.length*ps.length:=by
 obtain ⟨A,H,h1,h2,h3⟩:=h.lev
 have hx:P.length=((List.range ps.length).flatMap A).length:=by
  rw [h3.length_eq]
  have nil:∀ k,ps.length≤k→A k=[]:=fun k hk=>xsO (h2 k).1 fun t=>by
   rw [(h2 k).2]
   have:=List.countP_le_length (p:=(hasP · t)) (l:=ps)
   simp;omega
  have nil2:∀ k,H≤k→A k=[]:=fun k hk=>xsO (h2 k).1 fun t=>by
   rw [(h2 k).2];have:=h1 t;simp;omega
  rcases Nat.le_total H ps.length with hle|hle
  · have:=xj9 A H nil2 (ps.length - H)
    rw [show H+(ps.length - H)=ps.length by omega] at this
    rw [this]
  · have:=xj9 A ps.length nil (H - ps.length)
    rw [show ps.length+(H - ps.length)=H by omega] at this
    rw [this]
 rw [hx]
 have:=xkT (g:=A) (c:=ps.length) (List.range ps.length) fun k _=>xE8 (h2 k).1 (h2 k).2
 simpa using this
theorem xu7 {L:Row→List Per}:∀ {R:List Row} {l:List Fc},R.Nodup→(∀ r,r∈R→(L r).length≤(psOf l r).length*(psOf l r).length)→(facts R L).length≤l.length*l.length
 | [],l,_,_=>by simp [facts]
 | r::R,l,hn,h=>by
  obtain ⟨n1,n2⟩:=List.nodup_cons.1 hn
  have e:facts (r::R) L=((L r).map fun p=>(⟨r,p⟩:Fc))++facts R L:=by simp [facts]
  let l2:=l.filter fun f=>!decide (f.r=r)
  have hps:∀ r',r'∈R→psOf l2 r'=psOf l r':=fun r' hr'=>by
   have hne:r'≠r:=fun e=>n1 (e▸hr')
   unfold psOf
   simp only [l2,List.filter_filter]
   congr 1
   refine List.filter_congr fun f _=>?_
   by_cases hf:f.r=r'
   · have:¬ f.r=r:=fun e=>hne (hf▸e)
     simp [hf,hne]
   · simp [hf]
  have ih:=xu7 (L:=L) (l:=l2) n2 fun r' hr'=>by rw [hps r' hr'];exact h r' (by simp [hr'])
  have h1:=h r (by simp)
  have hl:(psOf l r).length+l2.length≤l.length:=by
   unfold psOf
   rw [List.length_map]
   have:=List.length_eq_countP_add_countP (fun f:Fc=>decide (f.r=r)) (l:=l)
   have a1:(l.filter fun f=>decide (f.r=r)&&pv f.p).length≤l.countP fun f=>decide (f.r=r):=by
    rw [←List.countP_eq_length_filter]
    exact List.countP_mono_left fun f _ hf=>by simp only [Bool.and_eq_true] at hf;exact hf.1
   have a2:l2.length=l.countP fun f=>¬ decide (f.r=r)=true:=by
    rw [List.countP_eq_length_filter];simp [l2]
   omega
  rw [e,List.length_append,List.length_map]
  have m1:=Nat.mul_le_mul hl hl
  have m2:(psOf l r).length*(psOf l r).length+l2.length*l2.length≤((psOf l r).length+l2.length)*((psOf l r).length+l2.length):=by
   rw [Nat.add_mul,Nat.mul_add,Nat.mul_add];omega
  omega
theorem IsBag.len {l B:List Fc} (h:IsBag l B):B.length≤l.length*l.length:=by
 obtain ⟨R,L,h1,h2,rfl⟩:=h
 refine xu7 (h1.1.nodup xsU) fun r hr=>?_
 have:=h2 r hr
 rw [show cnt l r=fun t=>(psOf l r).countP (hasP · t) from funext fun t=>(xFl l r t).symm] at this
 exact this.len
end Go.Sim.M
end
noncomputable section
namespace Go.Sim.M
open Go.RowKit Go.Sim.Srt
abbrev Asc (l:List Int):Prop:=l.Pairwise fun x y=>x<y
def insI:List Int→Int→List Int
 | [],n=>[n]
 | x::l,n=>if x<n then x::insI l n else if n<x then n::x::l else x::l
theorem xoR:∀ (l:List Int) (n x:Int),x∈insI l n↔x=n∨x∈l
 | [],n,x=>by simp [insI]
 | y::l,n,x=>by
  unfold insI
  split
  · rw [List.mem_cons,xoR l n x,List.mem_cons]
    constructor<;>rintro (h|h|h)<;>simp [h]
  · split
    · simp
    · have:y=n:=by omega
      subst this;simp
theorem xsY:∀ {l:List Int},Asc l→∀ n,Asc (insI l n)
 | [],_,n=>by simp [insI,Asc]
 | y::l,h,n=>by
  obtain ⟨h1,h2⟩:=List.pairwise_cons.1 h
  unfold insI
  split
  · refine List.pairwise_cons.2 ⟨fun z hz=>?_,xsY h2 n⟩
    rcases (xoR l n z).1 hz with rfl|hz
    · assumption
    · exact h1 z hz
  · split
    · rename_i hn
      refine List.pairwise_cons.2 ⟨fun z hz=>?_,h⟩
      rcases List.mem_cons.1 hz with rfl|hz
      · exact hn
      · have:=h1 z hz;omega
    · exact h
theorem xmj:∀ (l:List Int) (n:Int),(insI l n).length≤l.length+1
 | [],n=>by simp [insI]
 | y::l,n=>by
  unfold insI
  have:=xmj l n
  repeat' split
  all_goals simp
  all_goals omega
theorem xsQ (n:Int):∀ l:List Int,∃ m,m≤l.length∧(∀ k (h:k<m) (h2:k<l.length),l[k]<n)∧(∀ h:m<l.length,¬ l[m]<n)∧insI l n=l.take m++(if h:m<l.length then (if n<l[m] then n::l.drop m else l.drop m) else [n])
 | []=>⟨0,Nat.le_refl _,fun k h=>by omega,fun h=>by simp at h,by simp [insI]⟩
 | y::l=>by
  by_cases hy:y<n
  · obtain ⟨m,h1,h2,h3,h4⟩:=xsQ n l
    refine ⟨m+1,by simpa using h1,fun k h hk=>?_,fun h=>?_,?_⟩
    · cases k with
      | zero=>simpa using hy
      | succ k=>simpa using h2 k (by omega) (by simpa using hk)
    · simpa using h3 (by simpa using h)
    · unfold insI
      rw [if_pos hy,h4]
      by_cases hm:m<l.length<;>simp [hm]
  · refine ⟨0,Nat.zero_le _,fun k h=>by omega,fun _=>by simpa using hy,?_⟩
    unfold insI
    rw [if_neg hy]
    by_cases h:n<y<;>simp [h]
structure StepI (N:Int→Int) (T:Int) (S:List Per):Prop where
 asc:S.Pairwise fun a b=>a.1<b.1
 mem:∀ s,s∈S↔0≤s.1∧s.1<T∧s.2=N s.1∧(s.1=0∨N (s.1 - 1)≠s.2)
 last:0<T→∃ S' f,S=S'++[(f,N (T - 1))]
theorem StepI.nil (N:Int→Int):StepI N 0 []:=⟨List.Pairwise.nil,fun s=>by simp;omega,fun h=>by omega⟩
def putS (S:List Per) (f n:Int):List Per:=match S.getLast? with
 | some s=>if s.2=n then S else S++[(f,n)]
 | none=>S++[(f,n)]
theorem StepI.unique {N:Int→Int} {T:Int} {S S':List Per} (h:StepI N T S) (h':StepI N T S'):S=S' :=
 xpm xFu xm5 (h.asc.imp fun {x y} hxy=>by
  have h1:cmpP x y≤0:=xrk.2 (.inl hxy)
  by_cases h0:cmpP x y=0
  · have:=xm5 x y h0;subst this;omega
  · omega) (h'.asc.imp fun {x y} hxy=>by
  have h1:cmpP x y≤0:=xrk.2 (.inl hxy)
  by_cases h0:cmpP x y=0
  · have:=xm5 x y h0;subst this;omega
  · omega) fun s=>by rw [h.mem,h'.mem]
theorem StepI.put {N:Int→Int} {T T':Int} {S:List Per} (h:StepI N T S) (h0:0≤T) (hlt:T<T') (hc:∀ t,T≤t→t<T'→N t=N T):StepI N T' (putS S T (N T)):=by
 rcases Int.lt_or_eq_of_le h0 with hp|hz
 · obtain ⟨S',f,rfl⟩:=h.last hp
   unfold putS
   rw [List.getLast?_append]
   simp only [List.getLast?_singleton,Option.some_or]
   by_cases he:N (T - 1)=N T
   · rw [if_pos he]
     refine ⟨h.asc,fun s=>?_,fun _=>⟨S',f,by rw [he,hc (T' - 1) (by omega) (by omega)]⟩⟩
     rw [h.mem]
     constructor
     · rintro ⟨a,b,c,d⟩;exact ⟨a,by omega,c,d⟩
     · rintro ⟨a,b,c,d⟩
       refine ⟨a,?_,c,d⟩
       rcases Int.lt_or_le s.1 T with hs|hs
       · exact hs
       · exfalso
         have e1:=hc s.1 hs b
         rcases d with d|d
         · omega
         · rcases Int.lt_or_eq_of_le hs with h2|h2
           · have e2:=hc (s.1 - 1) (by omega) (by omega)
             exact d (by rw [e2,c,e1])
           · rw [←h2] at d c;exact d (by rw [he,c])
   · rw [if_neg he]
     refine ⟨?_,fun s=>?_,fun _=>⟨_,T,by rw [hc (T' - 1) (by omega) (by omega)]⟩⟩
     · rw [List.pairwise_append]
       refine ⟨h.asc,List.pairwise_singleton _ _,fun a ha b hb=>?_⟩
       simp only [List.mem_singleton] at hb
       subst hb
       exact ((h.mem a).1 ha).2.1
     · rw [List.mem_append,h.mem,List.mem_singleton]
       constructor
       · rintro (⟨a,b,c,d⟩|rfl)
         · exact ⟨a,by omega,c,d⟩
         · exact ⟨h0,hlt,rfl,.inr he⟩
       · rintro ⟨a,b,c,d⟩
         rcases Int.lt_or_le s.1 T with hs|hs
         · exact .inl ⟨a,hs,c,d⟩
         · right
           have e1:=hc s.1 hs b
           rcases Int.lt_or_eq_of_le hs with h2|h2
           · exfalso
             have e2:=hc (s.1 - 1) (by omega) (by omega)
             rcases d with d|d
             · omega
             · exact d (by rw [e2,c,e1])
           · exact Prod.ext h2.symm (by rw [c,e1])
 · subst hz
   have hS:S=[]:=by
    rw [List.eq_nil_iff_forall_not_mem]
    intro s hs
    have:=(h.mem s).1 hs
    omega
   subst hS
   refine ⟨by simp [putS],fun s=>?_,fun _=>⟨[],0,by simp [putS];exact (hc (T' - 1) (by omega) (by omega)).symm⟩⟩
   simp only [putS,List.getLast?_nil,List.nil_append,List.mem_singleton]
   constructor
   · rintro rfl;exact ⟨Int.le_refl _,hlt,rfl,.inl rfl⟩
   · rintro ⟨a,b,c,d⟩
     have e1:=hc s.1 a b
     rcases Int.lt_or_eq_of_le a with h2|h2
     · exfalso
       have e2:=hc (s.1 - 1) (by omega) (by omega)
       rcases d with d|d
       · omega
       · exact d (by rw [e2,c,e1])
     · exact Prod.ext h2.symm (by rw [c,e1])
theorem xyo (S:List Per) (f n:Int):(putS S f n).length≤S.length+1:=by
 unfold putS;repeat' split
 all_goals simp
def sumC (l:List Cnt) (t:Int):Int:=(l.map fun c=>if hasP c.1 t=true then c.2 else 0).sum
theorem xjL (c:Cnt) (l:List Cnt) (t:Int):sumC (c::l) t=(if hasP c.1 t=true then c.2 else 0)+sumC l t:=by simp [sumC]
theorem xzh (a b:List Cnt) (t:Int):sumC (a++b) t=sumC a t+sumC b t:=by simp [sumC]
theorem xyi (t:Int):sumC [] t=0:=rfl
theorem xtr {T T':Int}:∀ {l:List Cnt},(∀ c,c∈l→pv c.1=true→¬ (T<c.1.1∧c.1.1<T')∧¬ (T<c.1.2∧c.1.2<T'))→∀ t,T≤t→t<T'→sumC l t=sumC l T
 | [],_,t,_,_=>rfl
 | c::l,h,t,h1,h2=>by
  rw [xjL,xjL,xtr (fun c hc=>h c (by simp [hc])) t h1 h2]
  congr 2
  cases hv:pv c.1 with
  | false=>simp [hasP,hv]
  | true =>
   have:=h c (by simp) hv
   simp only [hasP,hv,Bool.true_and,Bool.and_eq_true,decide_eq_true_eq,eq_iff_iff]
   omega
theorem xw2 (B:Int) (hB:0≤B) (t:Int):∀ l:List Cnt,(∀ c,c∈l→-B≤c.2∧c.2≤B)→-(B*l.length)≤sumC l t∧sumC l t≤B*l.length
 | [],_=>by simp [xyi]
 | c::l,h=>by
  have ih:=xw2 B hB t l fun c hc=>h c (by simp [hc])
  have hc:=h c (by simp)
  rw [xjL,List.length_cons,show B*((l.length+1:Nat):Int)=B*(l.length:Int)+B by rw [Int.natCast_add,Int.mul_add];simp]
  split<;>omega
theorem xvh (ps:List Per) (t:Int):sumC (ps.map fun p=>(p,(1:Int))) t=(ps.countP (hasP · t):Nat):=by
 induction ps with
 | nil=>rfl
 | cons p ps ih =>
  rw [List.map_cons,xjL,ih,List.countP_cons]
  split<;>simp_all<;>omega
end Go.Sim.M
end
noncomputable section
set_option maxRecDepth 100000
namespace Go.Sim.M
open Go.RowKit Go.Sim.Srt
theorem xml (l:List Per) (hl:l.length≤1048576):Iter (xa9 (l.map encP) ((l.length:Nat):Int)) ((0:Nat),(0:Int),[])=some ((l.flatMap (fun (f:Per)=>[(f,(1:Int))])).length,(l.flatMap (fun (f:Per)=>[(f,(1:Int))])).map encC):=by
 refine xkW l (fun (f:Per)=>[(f,(1:Int))]) encC 1 (fun f hf=>?_) (fun n h D hD=>?_) (fun D=>?_)
 · simp
 · have h1:(n:Int)<(l.length:Int):=by omega
   have m1:(D.length+1)*24≤140737488355328:=by omega
   have m2:D.length+1≤4611686018427387904:=by omega
   have gf:(l.map encP).getD n .top=encP l[n]:=xa0 _ _ _ h
   simp only [xa9,xdO,List.length_map,xaD,xaE,decide_true,decide_false,Bool.and_true,Bool.true_and,Bool.not_true,Bool.not_false,Int.toNat_natCast,Int.natCast_nonneg,Option.isSome_some,Option.getD_some,beq_self_eq_true,Nat.zero_add,Nat.sub_zero,h,h1,gf,cP0,cP1,lP,sP,sP0,sP1,m1,m2,wrapS (n:=n) (by omega)]
   simp [encC]
 · simp only [xa9,xdO,List.length_map,Int.lt_irrefl,decide_false,xaE]
theorem xAD (l:List Per) (hl:l.length≤1048576):xc3 (l.map encP)=xij ((l.map fun p=>(p,(1:Int))).map encC):=by
 have h:=xml l hl
 rw [flat1] at h
 unfold xc3 xgz xh6 xh4 xh5 xh3
 rw [List.length_map,h]
 simp only [List.drop_zero,List.take_of_length_le,Nat.zero_add,List.length_map,Nat.le_refl,decide_true,Bool.and_true,xaD,Option.isSome_some,Option.getD_some,xww]
theorem xpK (t:Int) (l:List Fc) (hl:l.length≤1048576):Iter (xb4 t (l.map encF) ((l.length:Nat):Int)) ((0:Nat),(0:Int),[])=some ((l.flatMap (fun (f:Fc)=>if hasP f.p t=true then [f.r] else [])).length,(l.flatMap (fun (f:Fc)=>if hasP f.p t=true then [f.r] else [])).map encR):=by
 refine xkW l (fun (f:Fc)=>if hasP f.p t=true then [f.r] else []) encR 1 (fun f hf=>?_) (fun n h D hD=>?_) (fun D=>?_)
 · cases hc0:(hasP (f).p t)<;>simp [hc0]
 · have h1:(n:Int)<(l.length:Int):=by omega
   have m1:(D.length+1)*24≤140737488355328:=by omega
   have m2:D.length+1≤4611686018427387904:=by omega
   have gf:(l.map encF).getD n .top=encF l[n]:=xa0 _ _ _ h
   simp only [xb4,xfN,List.length_map,xaD,xaE,decide_true,decide_false,Bool.and_true,Bool.true_and,Bool.not_true,Bool.not_false,Int.toNat_natCast,Int.natCast_nonneg,Option.isSome_some,Option.getD_some,beq_self_eq_true,Nat.zero_add,Nat.sub_zero,h,h1,gf,cF0,cF1,cF2,sF0,sF1,sF2,lF,sF12,sF02,xDK,m1,m2,wrapS (n:=n) (by omega)]
   cases hc0:(hasP (l[n]).p t)<;>simp [encR,xaD,xaE,encR,hc0]
 · simp only [xb4,xfN,List.length_map,Int.lt_irrefl,decide_false,xaE]
theorem xsG (t:Int) (l:List Fc) (hl:l.length≤1048576):Iter (xcD (l.map encF) t) ((0:Nat),(0:Int),[])=some ((l.flatMap (fun (f:Fc)=>if hasP f.p t=true then [f.r] else [])).length,(l.flatMap (fun (f:Fc)=>if hasP f.p t=true then [f.r] else [])).map encR):=by
 refine xkW l (fun (f:Fc)=>if hasP f.p t=true then [f.r] else []) encR 1 (fun f hf=>?_) (fun n h D hD=>?_) (fun D=>?_)
 · cases hc0:(hasP (f).p t)<;>simp [hc0]
 · have h1:(n:Int)<(l.length:Int):=by omega
   have m1:(D.length+1)*24≤140737488355328:=by omega
   have m2:D.length+1≤4611686018427387904:=by omega
   have gf:(l.map encF).getD n .top=encF l[n]:=xa0 _ _ _ h
   simp only [xcD,xhO,List.length_map,xaD,xaE,decide_true,decide_false,Bool.and_true,Bool.true_and,Bool.not_true,Bool.not_false,Int.toNat_natCast,Int.natCast_nonneg,Option.isSome_some,Option.getD_some,beq_self_eq_true,Nat.zero_add,Nat.sub_zero,h,h1,gf,cF0,cF1,cF2,sF0,sF1,sF2,lF,sF12,sF02,xwJ,m1,m2,wrapS (n:=n) (by omega)]
   cases hc0:(hasP (l[n]).p t)<;>simp [encR,xaD,xaE,encR,hc0]
 · simp only [xcD,xhO,List.length_map,Int.lt_irrefl,decide_false,xaE]
theorem xmU (row:Row) (l:List Fc) (hl:l.length≤1048576) (hr:∀ f,f∈l→f.r.length≤maxLen):Iter (xbj (row.map encV) (l.map encF) ((l.length:Nat):Int)) ((0:Nat),(0:Int),[])=some ((l.flatMap (fun (f:Fc)=>if pv f.p=true then if cmpR f.r row==0 then [f.p] else [] else [])).length,(l.flatMap (fun (f:Fc)=>if pv f.p=true then if cmpR f.r row==0 then [f.p] else [] else [])).map encP):=by
 refine xkW l (fun (f:Fc)=>if pv f.p=true then if cmpR f.r row==0 then [f.p] else [] else []) encP 1 (fun f hf=>?_) (fun n h D hD=>?_) (fun D=>?_)
 · cases hc0:(pv (f).p)<;>cases hc1:(cmpR (f).r row==0)<;>simp [hc0,hc1]
 · have h1:(n:Int)<(l.length:Int):=by omega
   have m1:(D.length+1)*16≤140737488355328:=by omega
   have m2:D.length+1≤4611686018427387904:=by omega
   have gf:(l.map encF).getD n .top=encF l[n]:=xa0 _ _ _ h
   have hm:=hr l[n] (List.getElem_mem h)
   simp only [xbj,xdX,List.length_map,xaD,xaE,decide_true,decide_false,Bool.and_true,Bool.true_and,Bool.not_true,Bool.not_false,Int.toNat_natCast,Int.natCast_nonneg,Option.isSome_some,Option.getD_some,beq_self_eq_true,Nat.zero_add,Nat.sub_zero,h,h1,gf,cF0,cF1,cF2,sF0,sF1,sF2,lF,sF12,sF02,xqb,xCV _ _ hm,m1,m2,wrapS (n:=n) (by omega)]
   cases hc0:(pv (l[n]).p)<;>cases hc1:(cmpR (l[n]).r row==0)<;>simp [encP,xaD,xaE,encR,hc0,hc1]
 · simp only [xbj,xdX,List.length_map,Int.lt_irrefl,decide_false,xaE]
theorem xo8 (row:Row) (l:List Fc) (hl:l.length≤1048576) (hr:∀ f,f∈l→f.r.length≤maxLen):Iter (xbZ (l.map encF) (row.map encV)) ((0:Nat),(0:Int),[])=some ((l.flatMap (fun (f:Fc)=>if cmpR f.r row==0 then [(f.p,(1:Int))] else [])).length,(l.flatMap (fun (f:Fc)=>if cmpR f.r row==0 then [(f.p,(1:Int))] else [])).map encC):=by
 refine xkW l (fun (f:Fc)=>if cmpR f.r row==0 then [(f.p,(1:Int))] else []) encC 1 (fun f hf=>?_) (fun n h D hD=>?_) (fun D=>?_)
 · cases hc0:(cmpR (f).r row==0)<;>simp [hc0]
 · have h1:(n:Int)<(l.length:Int):=by omega
   have m1:(D.length+1)*24≤140737488355328:=by omega
   have m2:D.length+1≤4611686018427387904:=by omega
   have gf:(l.map encF).getD n .top=encF l[n]:=xa0 _ _ _ h
   have hm:=hr l[n] (List.getElem_mem h)
   simp only [xbZ,xfi,List.length_map,xaD,xaE,decide_true,decide_false,Bool.and_true,Bool.true_and,Bool.not_true,Bool.not_false,Int.toNat_natCast,Int.natCast_nonneg,Option.isSome_some,Option.getD_some,beq_self_eq_true,Nat.zero_add,Nat.sub_zero,h,h1,gf,cF0,cF1,cF2,sF0,sF1,sF2,lF,sF12,sF02,xu4 _ _ hm,m1,m2,wrapS (n:=n) (by omega)]
   cases hc0:(cmpR (l[n]).r row==0)<;>simp [encC,xaD,xaE,encR,hc0]
 · simp only [xbZ,xfi,List.length_map,Int.lt_irrefl,decide_false,xaE]
end Go.Sim.M
end
noncomputable section
set_option maxRecDepth 100000
namespace Go.Sim.M
open Go.RowKit Go.Sim.Srt
theorem xFm (l:List Int) (n:Int) (hl:l.length≤1048576) (m:Nat) (hm:m≤l.length) (h1:∀ k (h:k<m) (h2:k<l.length),l[k]<n) (h2:∀ h:m<l.length,¬ l[m]<n) :
  Iter (xbt (l.map encN) n) ((0:Nat),(0:Int),[])=some (m,(m:Int),(l.take m).map encN):=by
 refine xo7 (fun k=>((k,(k:Int),(l.take k).map encN):Nat×Int×List AV)) m _ (fun k hk=>?_) ?_ m 0 (by omega)
 · have hkl:k<l.length:=by omega
   have i1:(k:Int)<(l.length:Int):=by omega
   have i2:=h1 k hk hkl
   have m1:(k+1)*8≤140737488355328:=by omega
   have m2:k+1≤4611686018427387904:=by omega
   have tl:(l.take k).length=k:=by rw [List.length_take];omega
   have gf:(l.map encN).getD k .top=encN l[k]:=xa0 _ _ _ hkl
   simp only [xbt,xd6,List.length_map,xaD,xaE,decide_true,decide_false,Bool.and_true,Bool.true_and,Bool.not_true,Bool.not_false,Int.toNat_natCast,Int.natCast_nonneg,Option.isSome_some,Option.getD_some,beq_self_eq_true,Nat.zero_add,Nat.sub_zero,hkl,i1,i2,gf,cN,sN,tl,m1,m2,wrapS (n:=k) (by omega)]
   rw [List.take_add_one,List.getElem?_eq_getElem hkl,List.map_append]
   rfl
 · by_cases hml:m<l.length
   · have i1:(m:Int)<(l.length:Int):=by omega
     have i2:=h2 hml
     have gf:(l.map encN).getD m .top=encN l[m]:=xa0 _ _ _ hml
     simp only [xbt,xd6,List.length_map,xaD,xaE,decide_true,decide_false,Bool.and_true,Bool.true_and,Bool.not_true,Bool.not_false,Int.toNat_natCast,Int.natCast_nonneg,Option.isSome_some,Option.getD_some,beq_self_eq_true,Nat.zero_add,Nat.sub_zero,hml,i1,i2,gf,cN,sN]
   · have i1:¬ (m:Int)<(l.length:Int):=by omega
     simp only [xbt,xd6,List.length_map,xaD,xaE,decide_true,decide_false,Bool.and_true,Bool.true_and,Bool.not_true,Bool.not_false,Int.toNat_natCast,Int.natCast_nonneg,Option.isSome_some,Option.getD_some,beq_self_eq_true,Nat.zero_add,Nat.sub_zero,i1]
theorem xwx (l:List Int) (hl:l.length≤1048576):∀ (d i:Nat) (D:List Int),i+d=l.length→D.length≤1048576+i →
  Iter (xbu (l.map encN)) (D.length,(i:Int),D.map encN)=some ((D++l.drop i).length,(D++l.drop i).map encN)
 | 0,i,D,h,hD=>by
  obtain rfl:i=l.length:=by omega
  rw [List.drop_eq_nil_of_le (Nat.le_refl _),List.append_nil]
  refine xaP ?_
  simp only [xbu,xfg,List.length_map,Int.lt_irrefl,decide_false,xaE]
 | d+1,i,D,h,hD=>by
  have hil:i<l.length:=by omega
  have i1:(i:Int)<(l.length:Int):=by omega
  have m1:(D.length+1)*8≤140737488355328:=by omega
  have m2:D.length+1≤4611686018427387904:=by omega
  have gf:(l.map encN).getD i .top=encN l[i]:=xa0 _ _ _ hil
  rw [xeg (s':=((D++[l[i]]).length,((i+1:Nat):Int),(D++[l[i]]).map encN)) ?_,xwx l hl d (i+1) (D++[l[i]]) (by omega) (by rw [List.length_append];simp;omega),xcN hil,List.append_assoc]
  · rfl
  · simp only [xbu,xfg,List.length_map,xaD,xaE,decide_true,decide_false,Bool.and_true,Bool.true_and,Bool.not_true,Bool.not_false,Int.toNat_natCast,Int.natCast_nonneg,Option.isSome_some,Option.getD_some,beq_self_eq_true,Nat.zero_add,Nat.sub_zero,hil,i1,gf,cN,sN,m1,m2,wrapS (n:=i) (by omega)]
    simp [encN]
theorem xvK (l:List Int) (n:Int) (hl:l.length≤1048576):xc2 (l.map encN) n=some ((insI l n).map encN):=by
 obtain ⟨m,hm,h1,h2,h3⟩:=xsQ n l
 have e0:=xFm l n hl m hm h1 h2
 have tl:(l.take m).length=m:=by rw [List.length_take];omega
 have e1:=xwx l hl (l.length - m) m (l.take m++[n]) (by omega) (by rw [List.length_append,tl];simp;omega)
 have e2:=xwx l hl (l.length - m) m (l.take m) (by omega) (by omega)
 rw [List.length_append,tl,List.map_append] at e1
 rw [tl] at e2
 have e1:Iter (xbu (l.map encN)) (m+1,(m:Int),(l.take m).map encN++[AV.int .i64 n])=some ((l.take m++[n]++l.drop m).length,(l.take m++[n]++l.drop m).map encN):=e1
 have m1:(m+1)*8≤140737488355328:=by omega
 have m2:m+1≤4611686018427387904:=by omega
 rw [h3]
 unfold xc2 xiS
 by_cases hml:m<l.length
 · have i1:((m:Int)==(l.length:Int))=false:=by simp;omega
   have i2:(m:Int)<(l.length:Int):=by omega
   have gf:(l.map encN).getD m .top=encN l[m]:=xa0 _ _ _ hml
   rw [dif_pos hml]
   by_cases hn:n<l[m]
   · have i3:l[m]>n:=hn
     simp only [xck,xdx,xdQ,xgt,xgo,xgp,xgA,xgf,xgH,xgg,xcY,xfO,xeD,xeu,xfG,xfJ,e0,Option.isSome_some,Option.getD_some,List.length_map,i1,i2,hml,gf,cN,sN,i3,m1,m2,tl,e1,List.length_map,xaD,xaE,decide_true,decide_false,Bool.and_true,Bool.true_and,Bool.not_true,Bool.not_false,Int.toNat_natCast,Int.natCast_nonneg,Option.isSome_some,Option.getD_some,beq_self_eq_true,Nat.zero_add,Nat.sub_zero,List.drop_zero,List.take_of_length_le,Nat.zero_add,List.length_map,Nat.le_refl,decide_true,Bool.and_true,xaD,Option.isSome_some,Option.getD_some,↓reduceIte,List.append_assoc,List.singleton_append]
   · have i3:¬ l[m]>n:=hn
     simp only [xck,xdx,xdQ,xgt,xgo,xgp,xgA,xgf,xgH,xgg,xcY,xfO,xeD,xeu,xfG,xfJ,e0,Option.isSome_some,Option.getD_some,List.length_map,i1,i2,hml,gf,cN,sN,i3,e2,List.length_map,xaD,xaE,decide_true,decide_false,Bool.and_true,Bool.true_and,Bool.not_true,Bool.not_false,Int.toNat_natCast,Int.natCast_nonneg,Option.isSome_some,Option.getD_some,beq_self_eq_true,Nat.zero_add,Nat.sub_zero,List.drop_zero,List.take_of_length_le,Nat.zero_add,List.length_map,Nat.le_refl,decide_true,Bool.and_true,xaD,Option.isSome_some,Option.getD_some,↓reduceIte]
 · have i1:((m:Int)==(l.length:Int))=true:=by simp;omega
   rw [dif_neg hml]
   have hd:l.drop m=[]:=List.drop_eq_nil_of_le (by omega)
   rw [hd,List.append_nil] at e1
   simp only [xck,xdx,xdQ,xgt,xgo,xgp,xgA,xgf,xgH,xgg,xcY,xfO,xeD,xeu,xfG,xfJ,e0,Option.isSome_some,Option.getD_some,List.length_map,i1,m1,m2,tl,e1,List.length_map,xaD,xaE,decide_true,decide_false,Bool.and_true,Bool.true_and,Bool.not_true,Bool.not_false,Int.toNat_natCast,Int.natCast_nonneg,Option.isSome_some,Option.getD_some,beq_self_eq_true,Nat.zero_add,Nat.sub_zero,List.drop_zero,List.take_of_length_le,Nat.zero_add,List.length_map,Nat.le_refl,decide_true,Bool.and_true,xaD,Option.isSome_some,Option.getD_some]
theorem xAN {α:Type} (l:List α):l=[]∨∃ m a,l=m++[a]:=by
 rcases List.eq_nil_or_concat l with h|⟨m,a,h⟩
 · exact .inl h
 · exact .inr ⟨m,a,by rw [h,List.concat_eq_append]⟩
theorem xzO (S:List Per) (f n:Int) (hS:S.length≤16777216):∃ p,xcZ S.length f n (S.map encP)=some p∧br p.1 p.2.1.1 p.2.2.1=(putS S f n).length∧br p.1 p.2.1.2 p.2.2.2=(putS S f n).map encP:=by
 have m1:(S.length+1)*16≤140737488355328:=by omega
 have m2:S.length+1≤4611686018427387904:=by omega
 rcases xAN S with rfl|⟨S',s,rfl⟩
 · refine ⟨(false,(0,[]),(1,[encP (f,n)])),?_,rfl,rfl⟩
   unfold xcZ xhU
   simp [xci,encP]
 · have hk:IntKind.i64.wrap (((S'++[s]).length:Int) - 1)=((S'.length:Nat):Int):=by
    rw [List.length_append,xgM (by simp<;>omega) (by simp at hS ⊢<;>omega)];simp
   have g1:((S'++[s]).length:Int)>0:=by simp<;>omega
   have g2:(S'.length:Int)<((S'++[s]).length:Int):=by simp<;>omega
   have g3:S'.length<(S'++[s]).length:=by simp
   have gf:((S'++[s]).map encP).getD S'.length .top=encP s:=by
    rw [xa0 _ _ _ (by simp)];simp
   have hl:(S'++[s]).getLast?=some s:=by simp
   by_cases he:s.2=n
   · refine ⟨(true,((S'++[s]).length,(S'++[s]).map encP),(0,[])),?_,?_,?_⟩
     · unfold xcZ xhU
       simp only [hk,g1,g2,g3,gf,List.length_map,xaD,xaE,decide_true,decide_false,Bool.and_true,Bool.true_and,Bool.not_true,Bool.not_false,Int.toNat_natCast,Int.natCast_nonneg,Option.isSome_some,Option.getD_some,beq_self_eq_true,Nat.zero_add,Nat.sub_zero,cP0,cP1,lP,sP,sP0,sP1,he]
     · simp only [xaD,putS,hl,if_pos he]
     · simp only [xaD,putS,hl,if_pos he]
   · have he':(s.2==n)=false:=by simp [he]
     refine ⟨(false,(0,[]),((S'++[s]).length+1,(S'++[s]).map encP++[encP (f,n)])),?_,?_,?_⟩
     · unfold xcZ xhU
       simp only [hk,g1,g2,g3,gf,List.length_map,xaD,xaE,decide_true,decide_false,Bool.and_true,Bool.true_and,Bool.not_true,Bool.not_false,Int.toNat_natCast,Int.natCast_nonneg,Option.isSome_some,Option.getD_some,beq_self_eq_true,Nat.zero_add,Nat.sub_zero,cP0,cP1,lP,sP,sP0,sP1,he',m1,m2]
       rfl
     · simp only [xaE,putS,hl,if_neg he];simp
     · simp only [xaE,putS,hl,if_neg he];simp
def ptsC (l:List Cnt):List Int:=l.foldl (fun P c=>if pv c.1=true then insI (insI P c.1.1) c.1.2 else P) [0]
theorem xwW (l:List Cnt) (c:Cnt):ptsC (l++[c])=if pv c.1=true then insI (insI (ptsC l) c.1.1) c.1.2 else ptsC l:=by simp [ptsC]
theorem xw7:∀ l:List Cnt,Asc (ptsC l.reverse)∧∀ x,x∈ptsC l.reverse↔x=0∨∃ c,c∈l∧pv c.1=true∧(x=c.1.1∨x=c.1.2)
 | []=>by simp [ptsC,Asc]
 | c::l=>by
  obtain ⟨h1,h2⟩:=xw7 l
  rw [List.reverse_cons,xwW]
  split
  · rename_i hv
    refine ⟨xsY (xsY h1 _) _,fun x=>?_⟩
    rw [xoR,xoR,h2]
    constructor
    · rintro (h|h|h|⟨c',a,b,d⟩)
      · exact .inr ⟨c,by simp,hv,.inr h⟩
      · exact .inr ⟨c,by simp,hv,.inl h⟩
      · exact .inl h
      · exact .inr ⟨c',by simp [a],b,d⟩
    · rintro (h|⟨c',a,b,d⟩)
      · exact .inr (.inr (.inl h))
      · rcases List.mem_cons.1 a with rfl|a
        · rcases d with d|d
          · exact .inr (.inl d)
          · exact .inl d
        · exact .inr (.inr (.inr ⟨c',a,b,d⟩))
  · rename_i hv
    refine ⟨h1,fun x=>?_⟩
    rw [h2]
    constructor
    · rintro (h|⟨c',a,b,d⟩)
      · exact .inl h
      · exact .inr ⟨c',by simp [a],b,d⟩
    · rintro (h|⟨c',a,b,d⟩)
      · exact .inl h
      · rcases List.mem_cons.1 a with rfl|a
        · exact absurd b hv
        · exact .inr ⟨c',a,b,d⟩
theorem xFr (l:List Cnt):Asc (ptsC l)∧∀ x,x∈ptsC l↔x=0∨∃ c,c∈l∧pv c.1=true∧(x=c.1.1∨x=c.1.2):=by
 have:=xw7 l.reverse
 simpa using this
theorem xFQ (l:List Cnt) (hl:l.length≤262144):Iter (xcE (l.map encC)) ([AV.int IntKind.i64 (0:Int)],(0:Int))=some ((ptsC l).map encN)∧(ptsC l).length≤2*l.length+1:=by
 have hlen:∀ l:List Cnt,(ptsC l.reverse).length≤2*l.length+1:=fun l=>by
  induction l with
  | nil=>simp [ptsC]
  | cons c l ih =>
   rw [List.reverse_cons,xwW]
   have a1:=xmj (ptsC l.reverse) c.1.1
   have a2:=xmj (insI (ptsC l.reverse) c.1.1) c.1.2
   split<;>simp<;>omega
 refine ⟨?_,by have:=hlen l.reverse;simpa using this⟩
 refine xvl l (fun P c=>if pv c.1=true then insI (insI P c.1.1) c.1.2 else P) (fun n b=>(b.map encN,(n:Int))) (fun n b=>b.length≤2*n+1) (fun n h b hb=>?_) l.length 0 [0] (by omega) (by simp) ?_
 · have h1:(n:Int)<(l.length:Int):=by omega
   have gf:(l.map encC).getD n .top=encC l[n]:=xa0 _ _ _ h
   have a1:=xmj b l[n].1.1
   have a2:=xmj (insI b l[n].1.1) l[n].1.2
   have i1:=xvK b l[n].1.1 (by omega)
   have i2:=xvK (insI b l[n].1.1) l[n].1.2 (by omega)
   refine ⟨?_,by split<;>omega⟩
   simp only [xcE,xhJ,xg7,List.length_map,xaD,xaE,decide_true,decide_false,Bool.and_true,Bool.true_and,Bool.not_true,Bool.not_false,Int.toNat_natCast,Int.natCast_nonneg,Option.isSome_some,Option.getD_some,beq_self_eq_true,Nat.zero_add,Nat.sub_zero,h,h1,gf,cC0,cC1,cC2,lC,sC,sC3,sC2,xvk,i1,i2,wrapS (n:=n) (by omega),sC0,sC1]
   cases pv l[n].1<;>simp [xaD,xaE]
 · simp only [List.drop_zero]
   simp only [xcE,xhJ,xg7,List.length_map,Int.lt_irrefl,decide_false,xaE]
   rfl
def Tame (l:List Cnt):Prop:=l.length≤262144∧∀ c,c∈l→-1099511627776≤c.2∧c.2≤1099511627776
theorem xFR (l:List Cnt) (hl:Tame l) (P:List Int) (hP:P.length≤1048576) (on k:Nat) (hk:k<P.length) (ox:List AV):Iter (xcH (l.map encC) (P.map encN) on (k:Int)) ((0:Int),(0:Int),ox)=some (sumC l P[k],ox):=by
 have k1:(k:Int)<(P.length:Int):=by omega
 have gk:(P.map encN).getD k .top=encN P[k]:=xa0 _ _ _ hk
 have hll:=hl.1
 refine xo7 (fun i=>((sumC (l.take i) P[k],(i:Int),ox):Int×Int×List AV)) l.length _ (fun i hi=>?_) ?_ l.length 0 (by omega)
 · have h1:(i:Int)<(l.length:Int):=by omega
   have gf:(l.map encC).getD i .top=encC l[i]:=xa0 _ _ _ hi
   have hs:sumC (l.take (i+1)) P[k]=sumC (l.take i) P[k]+if hasP l[i].1 P[k]=true then l[i].2 else 0:=by
    rw [List.take_add_one,List.getElem?_eq_getElem hi,xzh]
    show _+sumC [l[i]] P[k]=_
    rw [xjL,xyi];omega
   have hb:=xw2 1099511627776 (by omega) P[k] (l.take i) fun c hc=>hl.2 c (List.mem_of_mem_take hc)
   have htl:(l.take i).length=i:=by rw [List.length_take];omega
   rw [htl] at hb
   have hc:=hl.2 l[i] (List.getElem_mem hi)
   have hw:hasP l[i].1 P[k]=true→IntKind.i64.wrap (sumC (l.take i) P[k]+l[i].2)=sumC (l.take i) P[k]+l[i].2:=fun _=>xgM (by omega) (by omega)
   simp only [xcH,xhP,List.length_map,xaD,xaE,decide_true,decide_false,Bool.and_true,Bool.true_and,Bool.not_true,Bool.not_false,Int.toNat_natCast,Int.natCast_nonneg,Option.isSome_some,Option.getD_some,beq_self_eq_true,Nat.zero_add,Nat.sub_zero,hi,h1,hk,k1,gf,gk,cC0,cC1,cC2,lC,sC,sC3,sC2,cN,sN,xwJ,wrapS (n:=i) (by omega),hs]
   cases hc:hasP l[i].1 P[k] with
   | false=>simp [xaE]
   | true=>rw [xaD,hw hc];rfl
 · simp only [xcH,xhP,List.length_map,Int.lt_irrefl,decide_false,xaE,List.take_length]
theorem xFf (l:List Cnt) (hl:Tame l):∃ S,xjv (l.map encC)=some (S.map encP)∧StepI (sumC l) 1099511627776 S∧S.length≤2*l.length+1:=by
 obtain ⟨e0,hPl⟩:=xFQ l hl.1
 obtain ⟨hP1,hP2⟩:=xFr l
 generalize hP:ptsC l=P at *
 have hll:=hl.1
 have hrng:∀ x,x∈P→0≤x∧x≤1099511627776:=fun x hx=>by
  rcases (hP2 x).1 hx with rfl|⟨c,_,hv,h⟩
  · omega
  · have:=xfK.1 hv
    rcases h with rfl|rfl<;>omega
 obtain ⟨m,hm,hlt,hend⟩:∃ m,m≤P.length∧(∀ k (h:k<P.length),k<m→P[k]<1099511627776)∧∀ h:m<P.length,¬ P[m]<1099511627776:=by
  obtain ⟨m,a,b,c,_⟩:=xsQ 1099511627776 P
  exact ⟨m,a,fun k h hk=>b k hk h,c⟩
 let G:Nat→List Per:=fun k=>(P.take k).foldl (fun S p=>putS S p (sumC l p)) []
 have hG:∀ k (h:k<P.length),G (k+1)=putS (G k) P[k] (sumC l P[k]):=fun k h=>by
  simp only [G]
  rw [List.take_add_one,List.getElem?_eq_getElem h,List.foldl_append];rfl
 have hGl:∀ k,k≤P.length→(G k).length≤k:=fun k=>by
  induction k with
  | zero=>intro _;simp [G]
  | succ k ih=>intro h;rw [hG k (by omega)];have:=xyo (G k) P[k] (sumC l P[k]);have:=ih (by omega);omega
 have hP0:0<P.length:=List.length_pos_of_mem ((hP2 0).2 (.inl rfl))
 have hfirst:P[0]=0:=by
  have h0:=(hrng P[0] (List.getElem_mem hP0)).1
  obtain ⟨j,hj,hj0⟩:=List.mem_iff_getElem.1 ((hP2 0).2 (.inl rfl))
  rcases Nat.eq_zero_or_pos j with rfl|hpos
  · exact hj0
  · have:=List.pairwise_iff_getElem.1 hP1 0 j hP0 hj hpos;omega
 have hm0:0<m:=by
  rcases Nat.eq_zero_or_pos m with rfl|h
  · exact absurd (by rw [hfirst];omega) (hend hP0)
  · exact h
 have nb:∀ k (h:k<P.length) T',(∀ h2:k+1<P.length,T'≤P[k+1])→T'≤1099511627776→∀ t,P[k]≤t→t<T'→sumC l t=sumC l P[k]:=fun k h T' hT hF t h1 h2=>by
  have no:∀ x,x∈P→¬ (P[k]<x∧x<T'):=fun x hx ⟨a,b⟩=>by
   obtain ⟨j,hj,rfl⟩:=List.mem_iff_getElem.1 hx
   rcases Nat.lt_trichotomy j k with hjk|rfl|hjk
   · have:=List.pairwise_iff_getElem.1 hP1 j k hj h hjk;omega
   · omega
   · rcases Nat.lt_or_eq_of_le hjk with h3|h3
     · have:=List.pairwise_iff_getElem.1 hP1 (k+1) j (by omega) hj h3
       have:=hT (by omega);omega
     · have h4:j=k+1:=h3.symm
       subst h4
       have:=hT hj;omega
  refine xtr (T:=P[k]) (T':=T') (fun c hc hv=>⟨no _ ((hP2 _).2 (.inr ⟨c,hc,hv,.inl rfl⟩)),no _ ((hP2 _).2 (.inr ⟨c,hc,hv,.inr rfl⟩))⟩) t h1 h2
 have inv:∀ k (h:k<P.length),k<m→StepI (sumC l) P[k] (G k):=fun k=>by
  induction k with
  | zero=>intro h _;rw [hfirst];exact .nil _
  | succ k ih =>
   intro h hkm
   rw [hG k (by omega)]
   have h1:=List.pairwise_iff_getElem.1 hP1 k (k+1) (by omega) h (by omega)
   have h2:=hlt (k+1) h hkm
   exact (ih (by omega) (by omega)).put (hrng _ (List.getElem_mem (by omega))).1 h1 (nb k (by omega) P[k+1] (fun _=>Int.le_refl _) (by omega))
 have fin:StepI (sumC l) 1099511627776 (G m):=by
  obtain ⟨k,rfl⟩:∃ k,m=k+1:=⟨m - 1,by omega⟩
  rw [hG k (by omega)]
  exact (inv k (by omega) (by omega)).put (hrng _ (List.getElem_mem (by omega))).1 (hlt k (by omega) (by omega)) (nb k (by omega) _ (fun h2=>by have:=hend h2;omega) (Int.le_refl _))
 refine ⟨G m,?_,fin,by have:=hGl m hm;omega⟩
 have e1:Iter (xcF (l.map encC) (P.map encN)) ((0:Nat),(0:Int),[])=some ((G m).length,(G m).map encP):=by
  refine xo7 (fun k=>(((G k).length,(k:Int),(G k).map encP):Nat×Int×List AV)) m _ (fun k hk=>?_) ?_ m 0 (by omega)
  · have hkP:k<P.length:=by omega
    have k1:(k:Int)<(P.length:Int):=by omega
    have k2:=hlt k hkP hk
    have gk:(P.map encN).getD k .top=encN P[k]:=xa0 _ _ _ hkP
    have e2:=xFR l hl P (by omega) (G k).length k hkP ((G k).map encP)
    have hgk:=hGl k (by omega)
    obtain ⟨p,hp1,hp2,hp3⟩:=xzO (G k) P[k] (sumC l P[k]) (by omega)
    simp only [xcF,xf6,xgT,xgU,xhh,xhk,xhf,xgY,xg0,List.length_map,xaD,xaE,decide_true,decide_false,Bool.and_true,Bool.true_and,Bool.not_true,Bool.not_false,Int.toNat_natCast,Int.natCast_nonneg,Option.isSome_some,Option.getD_some,beq_self_eq_true,Nat.zero_add,Nat.sub_zero,hkP,k1,k2,gk,cN,sN,e2,hp1,hp2,hp3,wrapS (n:=k) (by omega),hG k hkP]
  · by_cases hmP:m<P.length
    · have k1:(m:Int)<(P.length:Int):=by omega
      have k2:=hend hmP
      have gk:(P.map encN).getD m .top=encN P[m]:=xa0 _ _ _ hmP
      simp only [xcF,xf6,xgT,xgU,xhh,xhk,xhf,xgY,xg0,List.length_map,xaD,xaE,decide_true,decide_false,Bool.and_true,Bool.true_and,Bool.not_true,Bool.not_false,Int.toNat_natCast,Int.natCast_nonneg,Option.isSome_some,Option.getD_some,beq_self_eq_true,Nat.zero_add,Nat.sub_zero,hmP,k1,k2,gk,cN,sN]
    · have k1:¬ (m:Int)<(P.length:Int):=by omega
      simp only [xcF,xf6,xgT,xgU,xhh,xhk,xhf,xgY,xg0,List.length_map,xaD,xaE,decide_true,decide_false,Bool.and_true,Bool.true_and,Bool.not_true,Bool.not_false,Int.toNat_natCast,Int.natCast_nonneg,Option.isSome_some,Option.getD_some,beq_self_eq_true,Nat.zero_add,Nat.sub_zero,k1]
 unfold xjv xl8
 simp only [xnt,xnP,xnD,xnx,e0,Option.getD_some,Option.isSome_some,xaD,e1,List.drop_zero,List.take_of_length_le,Nat.zero_add,List.length_map,Nat.le_refl,decide_true,Bool.and_true,xaD,Option.isSome_some,Option.getD_some]
end Go.Sim.M
end
noncomputable section
set_option maxRecDepth 100000
namespace Go.Sim.M
open Go.RowKit Go.Sim.Srt Go.Sort
def chg (c:Cnt):List Per:=if pv c.1=true then [(c.1.1,c.2),(c.1.2,-c.2)] else []
theorem xzQ {l:List Cnt}:∀ s,s∈l.flatMap chg→0≤s.1∧s.1≤1099511627776:=fun s hs=>by
 obtain ⟨c,hc,h⟩:=List.mem_flatMap.1 hs
 unfold chg at h
 split at h
 · rename_i hv
   have:=xfK.1 hv
   simp only [List.mem_cons,List.not_mem_nil,or_false] at h
   rcases h with rfl|rfl<;>dsimp only<;>omega
 · simp at h
theorem xE7 (c:Cnt):(chg c).length≤2:=by unfold chg;split<;>simp
def sumS (S:List Per) (t:Int):Int:=(S.map fun s=>if s.1≤t then s.2 else 0).sum
theorem xrX (a b:List Per) (t:Int):sumS (a++b) t=sumS a t+sumS b t:=by simp [sumS]
theorem xDN {a b:List Int} (h:a.Perm b):a.sum=b.sum:=by
 induction h with
 | nil=>rfl
 | cons x _ ih=>simp [ih]
 | swap x y l=>simp;omega
 | trans _ _ h1 h2=>rw [h1,h2]
theorem xCi {a b:List Per} (h:a.Perm b) (t:Int):sumS a t=sumS b t:=xDN (h.map _)
theorem xw4 (t:Int):∀ l:List Cnt,sumS (l.flatMap chg) t=sumC l t
 | []=>rfl
 | c::l=>by
  rw [List.flatMap_cons,xrX,xw4 t l,xjL]
  congr 1
  unfold chg
  cases hv:pv c.1 with
  | false=>simp [sumS,hasP,hv]
  | true =>
   have:=xfK.1 hv
   simp only [if_true,sumS,List.map_cons,List.map_nil,List.sum_cons,List.sum_nil,hasP,hv,Bool.true_and,Bool.and_eq_true,decide_eq_true_eq]
   by_cases h1:c.1.1≤t<;>by_cases h2:c.1.2≤t
   · rw [if_pos h1,if_pos h2,if_neg (by omega)];omega
   · rw [if_pos h1,if_neg h2,if_pos (by omega)];omega
   · omega
   · rw [if_neg h1,if_neg h2,if_neg (by omega)];omega
theorem sum0:∀ L:List Per,(L.map fun _=>(0:Int)).sum=0
 | []=>rfl
 | _::L=>by rw [List.map_cons,List.sum_cons,sum0 L];rfl
def preS (S:List Per) (i:Nat):Int:=((S.take i).map (·.2)).sum
theorem xvC (S:List Per) (i:Nat) (h:i<S.length):preS S (i+1)=preS S i+S[i].2:=by
 unfold preS
 rw [List.take_add_one,List.getElem?_eq_getElem h,List.map_append,List.sum_append]
 simp
theorem xCW (S:List Per) (i:Nat) (hi:i≤S.length) (t:Int) (h1:∀ k (h:k<S.length),k<i→S[k].1≤t) (h2:∀ k (h:k<S.length),i≤k→t<S[k].1):preS S i=sumS S t:=by
 have e:S=S.take i++S.drop i:=(List.take_append_drop i S).symm
 conv=>rhs;rw [e]
 rw [xrX]
 have a1:sumS (S.take i) t=preS S i:=by
  unfold sumS preS
  congr 1
  refine List.map_congr_left fun s hs=>?_
  obtain ⟨k,hk,rfl⟩:=List.mem_iff_getElem.1 hs
  rw [List.length_take] at hk
  rw [List.getElem_take,if_pos (h1 k (by omega) (by omega))]
 have a2:sumS (S.drop i) t=0:=by
  unfold sumS
  have:(S.drop i).map (fun s=>if s.1≤t then s.2 else 0)=(S.drop i).map fun _=>(0:Int):=by
   refine List.map_congr_left fun s hs=>?_
   obtain ⟨k,hk,rfl⟩:=List.mem_iff_getElem.1 hs
   rw [List.length_drop] at hk
   have:=h2 (i+k) (by omega) (by omega)
   rw [List.getElem_drop,if_neg (by omega)]
  rw [this]
  exact sum0 _
 omega
theorem xwy {B:Int} (hB:0≤B) (S:List Per) (h:∀ s,s∈S→-B≤s.2∧s.2≤B):∀ i,i≤S.length→-(B*i)≤preS S i∧preS S i≤B*i
 | 0,_=>by simp [preS]
 | i+1,hi=>by
  have ih:=xwy hB S h i (by omega)
  have hs:=h S[i] (List.getElem_mem (by omega))
  rw [xvC S i (by omega),show B*((i+1:Nat):Int)=B*(i:Int)+B by rw [Int.natCast_add,Int.mul_add];simp]
  omega
def toS (e:Per):TyS:=(Fin.ofNat 1099511627777 e.1.toNat,e.2)
def ofS (x:TyS):Per:=((x.1.val:Int),x.2)
theorem xEB {e:Per} (h1:0≤e.1) (h2:e.1≤1099511627776):ofS (toS e)=e:=by
 have:e.1.toNat % 1099511627777=e.1.toNat:=Nat.mod_eq_of_lt (by omega)
 simp only [ofS,toS,Fin.ofNat,this,Int.toNat_of_nonneg h1]
theorem xEE (E:List Per) (h:∀ e,e∈E→0≤e.1∧e.1≤1099511627776):(E.map encP).all isS=true∧∃ S:List Per,srtS (E.map encP)=S.map encP∧S.Perm E∧S.Pairwise fun x y=>x.1≤y.1:=by
 refine ⟨?_,(pdqL cmpS (E.map toS)).map ofS,?_,?_,?_⟩
 · rw [List.all_eq_true]
   intro x hx
   obtain ⟨e,he,rfl⟩:=List.mem_map.1 hx
   have:=h e he
   show (decide _&&decide _)=true
   rw [decide_eq_true this.1,decide_eq_true this.2];rfl
 · unfold srtS
   have e1:(E.map encP).map decS=E.map toS:=by rw [List.map_map];rfl
   rw [e1,List.map_map];rfl
 · have hp:=((xjM cmpS swoS (E.map toS)).1).map ofS
   have e2:(E.map toS).map ofS=E:=by
    rw [List.map_map]
    conv=>rhs;rw [←List.map_id E]
    refine List.map_congr_left fun e he=>?_
    exact xEB (h e he).1 (h e he).2
   rwa [e2] at hp
 · rw [List.pairwise_map]
   refine (xyR cmpS swoS (E.map toS)).imp fun {x y} hxy=>?_
   show ((x.1.val:Nat):Int)≤((y.1.val:Nat):Int)
   unfold cmpS at hxy
   omega
theorem xEs (n o:Nat):xdE n o=xcm n o 0:=rfl
theorem xsJ (l:List Cnt) (hl:l.length≤1048576) (ht:∀ c,c∈l→-1099511627776≤c.2∧c.2≤1099511627776):Iter (xcG (l.map encC) ((l.length:Nat):Int)) ((0:Nat),(0:Int),[])=some ((l.flatMap (fun (f:Cnt)=>chg f)).length,(l.flatMap (fun (f:Cnt)=>chg f)).map encP):=by
 refine xkW l (fun (f:Cnt)=>chg f) encP 2 (fun f hf=>?_) (fun n h D hD=>?_) (fun D=>?_)
 · cases hc0:(pv (f).1)<;>simp [chg,hc0]
 · have h1:(n:Int)<(l.length:Int):=by omega
   have m1:(D.length+2)*16≤140737488355328:=by omega
   have m2:D.length+2≤4611686018427387904:=by omega
   have gf:(l.map encC).getD n .top=encC l[n]:=xa0 _ _ _ h
   have hm:=ht l[n] (List.getElem_mem h)
   have hw:IntKind.i64.wrap (0 - l[n].2)=-l[n].2:=by rw [xgM (by omega) (by omega)];omega
   simp only [xcG,xhL,List.length_map,xaD,xaE,decide_true,decide_false,Bool.and_true,Bool.true_and,Bool.not_true,Bool.not_false,Int.toNat_natCast,Int.natCast_nonneg,Option.isSome_some,Option.getD_some,beq_self_eq_true,Nat.zero_add,Nat.sub_zero,h,h1,gf,cC0,cC1,cC2,lC,sC,sC3,sC2,xqb,hw,m1,m2,wrapS (n:=n) (by omega)]
   cases hc0:(pv (l[n]).1)<;>simp [encP,xaD,xaE,encR,chg,hc0]
 · simp only [xcG,xhL,List.length_map,Int.lt_irrefl,decide_false,xaE]
theorem xsM (S:List Per) (hS:S.length≤1048576) (hb:∀ s,s∈S→-1099511627776≤s.2∧s.2≤1099511627776) (on:Nat) (at':Int) (ox:List AV):∀ (d i:Nat),i+d=S.length→∃ j:Nat,i≤j∧j≤S.length∧(∀ k (h:k<S.length),i≤k→k<j→S[k].1=at')∧(∀ h:j<S.length,S[j].1≠at') ∧
  Iter (xcm S.length on at') (preS S i,(i:Int),S.map encP,ox)=some (preS S j,(j:Int),S.map encP,ox)
 | 0,i,h=>by
  refine ⟨i,Nat.le_refl _,by omega,fun k _ h1 h2=>by omega,fun h=>by omega,xaP ?_⟩
  have i1:¬ (i:Int)<(S.length:Int):=by omega
  simp only [xcm,xf3,xgW,i1,decide_false,xaE]
 | d+1,i,h=>by
  have hi:i<S.length:=by omega
  have i1:(i:Int)<(S.length:Int):=by omega
  have gf:(S.map encP).getD i .top=encP S[i]:=xa0 _ _ _ hi
  by_cases he:S[i].1=at'
  · obtain ⟨j,h1,h2,h3,h4,h5⟩:=xsM S hS hb on at' ox d (i+1) (by omega)
    refine ⟨j,by omega,h2,fun k hk a b=>?_,h4,?_⟩
    · rcases Nat.lt_or_eq_of_le a with a|a
      · exact h3 k hk a b
      · subst a;exact he
    · have hp:=xwy (B:=1099511627776) (by omega) S hb i (by omega)
      have hs:=hb S[i] (List.getElem_mem hi)
      rw [xeg (s':=(preS S (i+1),((i+1:Nat):Int),S.map encP,ox)) ?_,h5]
      simp only [xcm,xf3,xgW,List.length_map,xaD,xaE,decide_true,decide_false,Bool.and_true,Bool.true_and,Bool.not_true,Bool.not_false,Int.toNat_natCast,Int.natCast_nonneg,Option.isSome_some,Option.getD_some,beq_self_eq_true,Nat.zero_add,Nat.sub_zero,hi,i1,gf,cP0,cP1,lP,sP,sP0,sP1,he,wrapS (n:=i) (by omega),xvC S i hi]
      rw [xgM (by omega) (by omega)]
  · have he':(S[i].1==at')=false:=by simp [he]
    refine ⟨i,Nat.le_refl _,by omega,fun k _ h1 h2=>by omega,fun _=>he,xaP ?_⟩
    simp only [xcm,xf3,xgW,List.length_map,xaD,xaE,decide_true,decide_false,Bool.and_true,Bool.true_and,Bool.not_true,Bool.not_false,Int.toNat_natCast,Int.natCast_nonneg,Option.isSome_some,Option.getD_some,beq_self_eq_true,Nat.zero_add,Nat.sub_zero,hi,i1,gf,cP0,cP1,lP,sP,sP0,sP1,he']
theorem xoT (l:List Cnt) (hl:Tame l):∃ S,xij (l.map encC)=some (S.map encP)∧StepI (sumC l) 1099511627776 S∧S.length≤2*l.length+1:=by
 have hll:=hl.1
 have e0:=xsJ l (by omega) hl.2
 have hE:=xkT (g:=chg) (c:=2) l fun c _=>xE7 c
 obtain ⟨hall,S,hS,hp,hso⟩:=xEE (l.flatMap chg) xzQ
 have hSl:S.length=(l.flatMap chg).length:=hp.length_eq
 have hrng:∀ s,s∈S→0≤s.1∧s.1≤1099511627776:=fun s hs=>xzQ s (hp.mem_iff.1 hs)
 have hb:∀ s,s∈S→-1099511627776≤s.2∧s.2≤1099511627776:=fun s hs=>by
  obtain ⟨c,hc,h⟩:=List.mem_flatMap.1 (hp.mem_iff.1 hs)
  have:=hl.2 c hc
  unfold chg at h
  split at h
  · simp only [List.mem_cons,List.not_mem_nil,or_false] at h
    rcases h with rfl|rfl<;>dsimp only<;>omega
  · simp at h
 have hN:∀ t,sumS S t=sumC l t:=fun t=>by rw [xCi hp,xw4]
 have hle:∀ a b (ha:a<S.length) (hb:b<S.length),a≤b→S[a].1≤S[b].1:=fun a b ha hb hab=>by
  rcases Nat.lt_or_eq_of_le hab with h|h
  · exact List.pairwise_iff_getElem.1 hso a b ha hb h
  · subst h;exact Int.le_refl _
 let T:Nat→Int:=fun i=>if h:i<S.length then S[i].1 else 1099511627776
 have step:∀ (out:List Per) (i j:Nat) (at':Int),0≤at'→i≤j→j≤S.length→StepI (sumC l) at' out→at'<1099511627776→(∀ k (h:k<S.length),k<i→S[k].1≤at')→(∀ k (h:k<S.length),i≤k→at'≤S[k].1)→(∀ k (h:k<S.length),i≤k→k<j→S[k].1=at')→(∀ h:j<S.length,S[j].1≠at') →
   preS S j=sumC l at'∧StepI (sumC l) (T j) (putS out at' (preS S j))∧at'<T j∧∀ k (h:k<S.length),k<j→S[k].1≤at':=fun out i j at' h0 hij hj hout hF hbef haft heq hne=>by
  have a1:∀ k (h:k<S.length),k<j→S[k].1≤at':=fun k h hk=>by
   rcases Nat.lt_or_ge k i with h1|h1
   · exact hbef k h h1
   · rw [heq k h h1 hk];exact Int.le_refl _
  have a2:∀ k (h:k<S.length),j≤k→at'<S[k].1:=fun k h hk=>by
   have hjl:j<S.length:=by omega
   have b1:=haft j hjl hij
   have b2:=hne hjl
   have b3:=hle j k hjl h hk
   omega
  have hT:at'<T j:=by
   simp only [T]
   split
   · rename_i h;exact a2 j h (Nat.le_refl _)
   · exact hF
  have hpre:∀ t,at'≤t→t<T j→preS S j=sumC l t:=fun t h1 h2=>by
   rw [←hN]
   refine xCW S j hj t (fun k h hk=>by have:=a1 k h hk;omega) fun k h hk=>?_
   have hjl:j<S.length:=by omega
   have b3:=hle j k hjl h hk
   simp only [T,dif_pos hjl] at h2
   omega
  have e:=hpre at' (Int.le_refl _) hT
  refine ⟨e,?_,hT,a1⟩
  rw [e]
  exact hout.put h0 hT fun t h1 h2=>by rw [←hpre t h1 h2,e]
 have hput:∀ (out:List Per) (f n:Int),out.length≤2*l.length+1→∃ p,xdo out.length f n (out.map encP)=some p∧br p.1 p.2.1.1 p.2.2.1=(putS out f n).length∧br p.1 p.2.1.2 p.2.2.2=(putS out f n).map encP:=fun out f n h=>xzO out f n (by omega)
 obtain ⟨j0,_,hj0,h3,h4,e1⟩:=xsM S (by omega) hb 0 0 ([]:List AV) S.length 0 (by omega)
 obtain ⟨_,st0,_,bef0⟩:=step [] 0 j0 0 (Int.le_refl _) (Nat.zero_le _) hj0 (.nil _) (by omega) (fun k _ h=>by omega) (fun k h _=>(hrng _ (List.getElem_mem h)).1) h3 h4
 obtain ⟨p0,hp1,hp2,hp3⟩:=hput [] 0 (preS S j0) (by simp)
 have o0:putS [] 0 (preS S j0)=[(0,preS S j0)]:=rfl
 obtain ⟨r,hr,out,rfl,hout,hlen⟩:=xDz (step:=xcC S.length)
  (fun s=>∃ (out:List Per) (i:Nat),s=(out.length,preS S i,(i:Int),S.map encP,out.map encP)∧i≤S.length∧StepI (sumC l) (T i) out∧out.length≤i+1∧∀ k (h:k<S.length) (hi:i<S.length),k<i→S[k].1≤S[i].1) (fun s=>(S.length - s.2.2.1.toNat)) (fun r=>∃ out:List Per,r=(out.length,out.map encP)∧StepI (sumC l) 1099511627776 out∧out.length≤2*l.length+1)
  (by
   rintro _ ⟨out,i,rfl,hi,hst,hol,hbef⟩
   by_cases hil:i<S.length
   · have i1:(i:Int)<(S.length:Int):=by omega
     have gf:(S.map encP).getD i .top=encP S[i]:=xa0 _ _ _ hil
     have hTi:T i=S[i].1:=dif_pos hil
     by_cases hF:S[i].1<1099511627776
     · left
       obtain ⟨j,a1,a2,a3,a4,a5⟩:=xsM S (by omega) hb out.length S[i].1 (out.map encP) (S.length - i) i (by omega)
       rw [hTi] at hst
       obtain ⟨b1,b2,b3,b4⟩:=step out i j S[i].1 (hrng _ (List.getElem_mem hil)).1 a1 a2 hst hF (fun k h hk=>hle k i h hil (by omega)) (fun k h hk=>hle i k hil h hk) a3 a4
       have hij:i<j:=by
        rcases Nat.lt_or_eq_of_le a1 with h|h
        · exact h
        · subst h;exact absurd rfl (a4 hil)
       obtain ⟨p,hp1,hp2,hp3⟩:=hput out S[i].1 (preS S j) (by omega)
       have hpl:=xyo out S[i].1 (preS S j)
       refine ⟨((putS out S[i].1 (preS S j)).length,preS S j,(j:Int),S.map encP,(putS out S[i].1 (preS S j)).map encP),?_,⟨_,j,rfl,a2,b2,by omega,fun k h hj hk=>hle k j h hj (by omega)⟩,by dsimp only;rw [Int.toNat_natCast,Int.toNat_natCast];omega⟩
       simp only [xcC,xf7,xg3,xg2,xgX,xgZ,xhp,xhi,xhe,xgx,xhq,xho,xgu,xgE,xfd,List.length_map,xaD,xaE,decide_true,decide_false,Bool.and_true,Bool.true_and,Bool.not_true,Bool.not_false,Int.toNat_natCast,Int.natCast_nonneg,Option.isSome_some,Option.getD_some,beq_self_eq_true,Nat.zero_add,Nat.sub_zero,hil,i1,gf,cP0,cP1,lP,sP,sP0,sP1,hF,a5,hp1,hp2,hp3]
     · right
       have hFe:S[i].1=1099511627776:=by have:=(hrng _ (List.getElem_mem hil)).2;omega
       refine ⟨(out.length,out.map encP),?_,out,rfl,by rw [←hFe,←hTi];exact hst,by omega⟩
       simp only [xcC,xf7,xg3,xg2,xgX,xgZ,xhp,xhi,xhe,xgx,xhq,xho,xgu,xgE,xfd,List.length_map,xaD,xaE,decide_true,decide_false,Bool.and_true,Bool.true_and,Bool.not_true,Bool.not_false,Int.toNat_natCast,Int.natCast_nonneg,Option.isSome_some,Option.getD_some,beq_self_eq_true,Nat.zero_add,Nat.sub_zero,hil,i1,gf,cP0,cP1,lP,sP,sP0,sP1,hF]
   · right
     have i1:¬ (i:Int)<(S.length:Int):=by omega
     have hTi:T i=1099511627776:=dif_neg hil
     refine ⟨(out.length,out.map encP),?_,out,rfl,by rw [←hTi];exact hst,by omega⟩
     simp only [xcC,xf7,xg3,xg2,xgX,xgZ,xhp,xhi,xhe,xgx,xhq,xho,xgu,xgE,xfd,List.length_map,xaD,xaE,decide_true,decide_false,Bool.and_true,Bool.true_and,Bool.not_true,Bool.not_false,Int.toNat_natCast,Int.natCast_nonneg,Option.isSome_some,Option.getD_some,beq_self_eq_true,Nat.zero_add,Nat.sub_zero,i1])
  (([(0,preS S j0)]:List Per).length,preS S j0,(j0:Int),S.map encP,([(0,preS S j0)]:List Per).map encP) ⟨[(0,preS S j0)],j0,rfl,hj0,st0,by simp,fun k h hj hk=>hle k j0 h hj (by omega)⟩
 refine ⟨out,?_,hout,hlen⟩
 have d1:(l.flatMap chg).length<4611686018427387904:=by omega
 have d2:((l.flatMap chg).length).beq (l.flatMap chg).length=true:=Nat.beq_refl _
 have e1':Iter (xdE (l.flatMap chg).length 0) ((0:Int),(0:Int),S.map encP,[])=some (preS S j0,(j0:Int),S.map encP,[]):=by
  rw [xEs,←hSl];exact e1
 rw [hSl] at hr
 unfold xij xlx
 have hp1':xdo 0 0 (preS S j0) []=some p0:=hp1
 rw [o0] at hp2 hp3
 simp only [xnI,xnA,xnC,xnB,xnY,xnH,xnT,xnr,xnE,xnW,xmR,xmv,xmM,xmn,xmq,xid,xka,xme,List.length_map,e0,Option.getD_some,Option.isSome_some,xaD,hall,hS,d1,d2,e1',hp1',hp2,hp3,hr,decide_true,Bool.and_true,List.drop_zero,List.take_of_length_le,Nat.zero_add,List.length_map,Nat.le_refl,decide_true,Bool.and_true,xaD,Option.isSome_some,Option.getD_some]
end Go.Sim.M
end
noncomputable section
set_option maxRecDepth 100000
namespace Go.Sim.M
open Go.RowKit Go.Sim.Srt
section
variable {α : Type} {enc : α → AV} {okE : AV → Bool} {ldE : AV → AV}
theorem gR {l:List α} {i:Nat} {x:α} (h:l[i]?=some x):(List.map enc l).getD i .top=enc x:=by
 simp [List.getD,h]
theorem setR (l:List α) (i:Nat) (x:α):(List.map enc l).set i (enc x)=List.map enc (l.set i x):=by
 simp [List.map_set]
theorem xis {l:List α} {i:Nat} {x:α} (h:l[i]?=some x):i<l.length:=(List.getElem?_eq_some_iff.1 h).1
theorem xdC {l:List α} {i:Nat} {x:α} (h:l[i]?=some x):x∈l:=List.mem_of_getElem? h
theorem xDL {l:List α} {i j:Nat} {x y:α} (hx:x∈l) (hy:y∈l) {z:α} (h:z∈(l.set i y).set j x):z∈l:=by
 rcases List.mem_or_eq_of_mem_set h with h|rfl
 · rcases List.mem_or_eq_of_mem_set h with h|rfl
   · exact h
   · exact hy
 · exact hx
theorem w64 {x:Int} {n:Nat} (h:x=(n:Int)) (hn:n≤9223372036854775807):IntKind.i64.wrap x=(n:Int):=by
 rw [xgM (by omega) (by omega)];exact h
theorem half64 {i j:Nat} (h:i+j≤9223372036854775807):IntKind.i64.wrap ((IntKind.u64.wrap (IntKind.i64.wrap ((i:Int)+(j:Int)))).fdiv 2)=(((i+j) / 2:Nat):Int):=by
 rw [xgM (n:=(i:Int)+(j:Int)) (by omega) (by omega)]
 have hu:IntKind.u64.wrap ((i:Int)+(j:Int))=(i:Int)+(j:Int):=by
  unfold IntKind.wrap IntKind.bits IntKind.signed;simp;omega
 rw [hu,Int.fdiv_eq_ediv_of_nonneg _ (by omega)]
 exact w64 (by omega) (by omega)
structure LOk (N:Nat) (ok:α→Prop) (l:List α):Prop where
 len:l.length=N
 ok:∀ x,x∈l→ok x
theorem LOk.set2 {N:Nat} {ok:α→Prop} {l:List α} (h:LOk N ok l) {i j:Nat} {x y:α} (hx:x∈l) (hy:y∈l):LOk N ok ((l.set i y).set j x) :=
 ⟨by simp [h.len],fun z hz=>h.ok z (xDL hx hy hz)⟩
theorem LOk.perm {N:Nat} {ok:α→Prop} {l l':List α} (h:LOk N ok l) (hp:l'.Perm l):LOk N ok l' :=
 ⟨hp.length_eq.trans h.len,fun z hz=>h.ok z (hp.mem_iff.1 hz)⟩
theorem xgw {σ ρ σ' ρ':Type} {p:σ→Option (σ⊕ρ)} {g:σ'→Option (σ'⊕ρ')} (I:σ→Prop) (J:ρ→Prop) (e:σ→σ') (f:ρ→ρ')
  (h:∀ s,I s→(∀ s',p s=some (.inl s')→g (e s)=some (.inl (e s'))∧I s')∧(∀ r,p s=some (.inr r)→g (e s)=some (.inr (f r))∧J r)) {s:σ} {r:ρ} (hI:I s) (hr:Iter p s=some r):Iter g (e s)=some (f r)∧J r:=by
 obtain ⟨n,hn⟩:=xk2.1 hr
 clear hr
 induction n generalizing s with
 | zero=>simp [iterN] at hn
 | succ n ih =>
  unfold iterN at hn
  obtain ⟨h1,h2⟩:=h s hI
  split at hn
  · rename_i s' hs
    obtain ⟨h3,h4⟩:=h1 s' hs
    rw [xeg h3]
    exact ih h4 hn
  · rename_i r' hs
    simp only [Option.some.injEq] at hn
    subst hn
    obtain ⟨h3,h4⟩:=h2 _ hs
    exact ⟨xaP h3,h4⟩
  · simp at hn
theorem xjt {σ ρ σ' ρ':Type} {p:Option (σ⊕ρ)} {g:Option (σ'⊕ρ')} {I:σ→Prop} {J:ρ→Prop} {e:σ→σ'} {f:ρ→ρ'} {s0:σ} (hp:p=some (.inl s0)) (hg:g=some (.inl (e s0))) (hI:I s0) :
  (∀ s',p=some (.inl s')→g=some (.inl (e s'))∧I s')∧(∀ r,p=some (.inr r)→g=some (.inr (f r))∧J r) :=
 ⟨fun s' h=>by rw [hp] at h;simp only [Option.some.injEq,Sum.inl.injEq] at h;subst h;exact ⟨hg,hI⟩,fun r h=>by rw [hp] at h;simp at h⟩
theorem xjc {σ ρ σ' ρ':Type} {p:Option (σ⊕ρ)} {g:Option (σ'⊕ρ')} {I:σ→Prop} {J:ρ→Prop} {e:σ→σ'} {f:ρ→ρ'} {r0:ρ} (hp:p=some (.inr r0)) (hg:g=some (.inr (f r0))) (hJ:J r0) :
  (∀ s',p=some (.inl s')→g=some (.inl (e s'))∧I s')∧(∀ r,p=some (.inr r)→g=some (.inr (f r))∧J r) :=
 ⟨fun s' h=>by rw [hp] at h;simp at h,fun r h=>by rw [hp] at h;simp only [Option.some.injEq,Sum.inr.injEq] at h;subst h;exact ⟨hg,hJ⟩⟩
theorem xec {σ ρ σ' ρ':Type} {p:Option (σ⊕ρ)} {g:Option (σ'⊕ρ')} {I:σ→Prop} {J:ρ→Prop} {e:σ→σ'} {f:ρ→ρ'} (hp:p=none) :
  (∀ s',p=some (.inl s')→g=some (.inl (e s'))∧I s')∧(∀ r,p=some (.inr r)→g=some (.inr (f r))∧J r) :=
 ⟨fun s' h=>by rw [hp] at h;simp at h,fun r h=>by rw [hp] at h;simp at h⟩
theorem xEA {N:Nat} (he:∀ a,okE (enc a)=true) (hd:∀ a,ldE (enc a)=enc a) (hN:N≤2 ^ 60) {ok:α→Prop} {c:α→α→Int} {P:AV→AV→Bool} {V:AV→AV→Int} (hc:∀ x y,ok x→ok y→P (enc x) (enc y)=true∧V (enc x) (enc y)=c x y)
  {g:Int×List AV→Option ((Int×List AV)⊕List AV)} (a:Nat)
  (hg:∀ (j:Int) (xs:List AV),g (j,xs)=br (decide (j>(a:Int))) (br (decide ((0:Int)≤j)&&decide (j<(N:Int))) (br (decide ((0:Nat)+j.toNat<xs.length)&&okE (xs.getD ((0:Nat)+j.toNat) AV.top))
   (br (decide ((0:Int)≤IntKind.i64.wrap (j - 1))&&decide (IntKind.i64.wrap (j - 1)<(N:Int))) (br (decide ((0:Nat)+(IntKind.i64.wrap (j - 1)).toNat<xs.length)&&okE (xs.getD ((0:Nat)+(IntKind.i64.wrap (j - 1)).toNat) AV.top))
   (br (P (xs.getD ((0:Nat)+j.toNat) AV.top) (xs.getD ((0:Nat)+(IntKind.i64.wrap (j - 1)).toNat) AV.top))
   (br (decide (V (xs.getD ((0:Nat)+j.toNat) AV.top) (xs.getD ((0:Nat)+(IntKind.i64.wrap (j - 1)).toNat) AV.top)<0))
   (br (decide ((0:Int)≤IntKind.i64.wrap (j - 1))&&decide (IntKind.i64.wrap (j - 1)<(N:Int))) (br (decide ((0:Nat)+(IntKind.i64.wrap (j - 1)).toNat<xs.length)&&okE (xs.getD ((0:Nat)+(IntKind.i64.wrap (j - 1)).toNat) AV.top))
   (br (decide ((0:Int)≤j)&&decide (j<(N:Int))) (br (decide ((0:Nat)+j.toNat<xs.length)&&okE (xs.getD ((0:Nat)+j.toNat) AV.top))
   (br (decide ((0:Int)≤j)&&decide (j<(N:Int))) (br (decide ((0:Nat)+j.toNat<xs.length)) (br (decide ((0:Int)≤IntKind.i64.wrap (j - 1))&&decide (IntKind.i64.wrap (j - 1)<(N:Int)))
   (br (decide ((0:Nat)+(IntKind.i64.wrap (j - 1)).toNat<(xs.set ((0:Nat)+j.toNat) (ldE (xs.getD ((0:Nat)+(IntKind.i64.wrap (j - 1)).toNat) AV.top))).length))
    (some (.inl (IntKind.i64.wrap (j - 1),(xs.set ((0:Nat)+j.toNat) (ldE (xs.getD ((0:Nat)+(IntKind.i64.wrap (j - 1)).toNat) AV.top))).set ((0:Nat)+(IntKind.i64.wrap (j - 1)).toNat) (ldE (xs.getD ((0:Nat)+j.toNat) AV.top)))))
    none) none) none) none) none) none) none) none) (some (.inr xs))) none) none) none) none) none) (some (.inr xs)))
  {j:Nat} {l r:List α} (hl:LOk N ok l) (hr:Iter (insInner c a) (j,l)=some r):Iter g ((j:Int),List.map enc l)=some (List.map enc r)∧LOk N ok r:=by
 refine xgw (I:=fun s=>LOk N ok s.2) (J:=LOk N ok) (e:=fun s=>((s.1:Int),List.map enc s.2)) (f:=List.map enc) ?_ (s:=(j,l)) hl hr
 rintro ⟨j,l⟩ (hl:LOk N ok l)
 have hlen:l.length=N:=hl.len
 by_cases ha:a<j
 · cases hx:l[j]? with
   | none=>exact xec (by simp [insInner,ha,hx])
   | some x =>
    cases hy:l[j - 1]? with
    | none=>exact xec (by simp [insInner,ha,hx,hy])
    | some y =>
     have hj:=xis hx
     have hj1:=xis hy
     have w1:IntKind.i64.wrap ((j:Int) - 1)=((j - 1:Nat):Int):=w64 (by omega) (by omega)
     obtain ⟨c1,c2⟩:=hc x y (hl.ok _ (xdC hx)) (hl.ok _ (xdC hy))
     have k1:(j:Int)<(N:Int):=by omega
     have k2:((j - 1:Nat):Int)<(N:Int):=by omega
     have k3:(j:Int)>(a:Int):=by omega
     have k4:j<(List.map enc l).length:=by simpa using hj
     have k5:j - 1<(List.map enc l).length:=by simpa using hj1
     by_cases hlt:c x y<0
     · have hp:insInner c a (j,l)=some (.inl (j - 1,(l.set j y).set (j - 1) x)):=by simp [insInner,ha,hx,hy,hlt]
       have hgg:g ((j:Int),List.map enc l)=some (.inl (((j - 1:Nat):Int),List.map enc ((l.set j y).set (j - 1) x))):=by
        rw [hg]
        simp only [w1,Int.toNat_natCast,Nat.zero_add,gR hx,gR hy,he,hd,c1,c2,setR,hlt,k1,k2,k3,k4,k5,decide_true,Bool.and_true,xaD,Int.natCast_nonneg,List.length_map,List.length_set,hj,hj1]
       exact xjt hp hgg (hl.set2 (xdC hx) (xdC hy))
     · have hp:insInner c a (j,l)=some (.inr l):=by simp [insInner,ha,hx,hy,hlt]
       have hgg:g ((j:Int),List.map enc l)=some (.inr (List.map enc l)):=by
        rw [hg]
        simp only [w1,Int.toNat_natCast,Nat.zero_add,gR hx,gR hy,he,hd,c1,c2,setR,hlt,k1,k2,k3,k4,k5,decide_true,decide_false,Bool.and_true,xaD,xaE,Int.natCast_nonneg]
       exact xjc hp hgg hl
 · have hp:insInner c a (j,l)=some (.inr l):=by simp [insInner,ha]
   have k3:¬ ((j:Int)>(a:Int)):=by omega
   have hgg:g ((j:Int),List.map enc l)=some (.inr (List.map enc l)):=by
    rw [hg]
    simp only [k3,decide_false,xaE]
   exact xjc hp hgg hl
def xchK {T:Type} (okE:AV→Bool) (ldE:AV→AV) (N:Nat) (u v:Int) (xs:List AV) (δ:T) (κ:List AV→T):T :=
 br (decide ((0:Int)≤v)&&decide (v<(N:Int))) (br (decide ((0:Nat)+v.toNat<xs.length)&&okE (xs.getD ((0:Nat)+v.toNat) AV.top))
 (br (decide ((0:Int)≤u)&&decide (u<(N:Int))) (br (decide ((0:Nat)+u.toNat<xs.length)&&okE (xs.getD ((0:Nat)+u.toNat) AV.top))
 (br (decide ((0:Int)≤u)&&decide (u<(N:Int))) (br (decide ((0:Nat)+u.toNat<xs.length)) (br (decide ((0:Int)≤v)&&decide (v<(N:Int)))
 (br (decide ((0:Nat)+v.toNat<(xs.set ((0:Nat)+u.toNat) (ldE (xs.getD ((0:Nat)+v.toNat) AV.top))).length))
  (κ ((xs.set ((0:Nat)+u.toNat) (ldE (xs.getD ((0:Nat)+v.toNat) AV.top))).set ((0:Nat)+v.toNat) (ldE (xs.getD ((0:Nat)+u.toNat) AV.top))))
  δ) δ) δ) δ) δ) δ) δ) δ
theorem xwS {T:Type} {N:Nat} (he:∀ a,okE (enc a)=true) (hd:∀ a,ldE (enc a)=enc a)  {l:List α} (hl:l.length=N) {i j:Nat} {x y:α} (hx:l[i]?=some x) (hy:l[j]?=some y) {δ:T} {κ:List AV→T}:xchK okE ldE N (i:Int) (j:Int) (List.map enc l) δ κ=κ (List.map enc ((l.set i y).set j x)):=by
 have h1:=xis hx
 have h2:=xis hy
 have k1:(i:Int)<(N:Int):=by omega
 have k2:(j:Int)<(N:Int):=by omega
 have k4:i<(List.map enc l).length:=by simpa using h1
 have k5:j<(List.map enc l).length:=by simpa using h2
 unfold xchK
 simp only [Int.toNat_natCast,Nat.zero_add,gR hx,gR hy,he,hd,setR,k1,k2,k4,k5,decide_true,Bool.and_true,xaD,Int.natCast_nonneg,List.length_map,List.length_set,h1,h2]
theorem xEK {N:Nat} (he:∀ a,okE (enc a)=true) (hd:∀ a,ldE (enc a)=enc a) (hN:N≤2 ^ 60) {ok:α→Prop} {g:Int×List AV→Option ((Int×List AV)⊕List AV)} (a b n:Nat) (ha:a≤2 ^ 60) (hb:b≤2 ^ 60) (hn:n≤2 ^ 60)
  (hg:∀ (i:Int) (xs:List AV),g (i,xs)=br (decide (i<(n:Int))) (xchK okE ldE N (IntKind.i64.wrap ((a:Int)+i)) (IntKind.i64.wrap ((b:Int)+i)) xs none fun ys=>some (.inl (IntKind.i64.wrap (i+1),ys))) (some (.inr xs)))
  {l r:List α} (hl:LOk N ok l) (hr:swr a b n l=some r):Iter g ((0:Int),List.map enc l)=some (List.map enc r)∧LOk N ok r:=by
 refine xgw (I:=fun s=>LOk N ok s.2) (J:=LOk N ok) (e:=fun s=>((s.1:Int),List.map enc s.2)) (f:=List.map enc) ?_ (s:=(0,l)) hl hr
 rintro ⟨i,l⟩ (hl:LOk N ok l)
 by_cases hi:i<n
 · cases hx:l[a+i]? with
   | none=>exact xec (by simp [swrStep,hi,hx])
   | some x =>
    cases hy:l[b+i]? with
    | none=>exact xec (by simp [swrStep,hi,hx,hy])
    | some y =>
     refine xjt (s0:=(i+1,(l.set (a+i) y).set (b+i) x)) (by simp [swrStep,hi,hx,hy]) ?_ (hl.set2 (xdC hx) (xdC hy))
     rw [hg,show decide ((i:Int)<(n:Int))=true by simp [hi],xaD,w64 (n:=a+i) (by omega) (by omega),w64 (n:=b+i) (by omega) (by omega),xwS he hd hl.len hx hy,w64 (n:=i+1) (by omega) (by omega)]
 · refine xjc (r0:=l) (by simp [swrStep,hi]) ?_ hl
   rw [hg,show decide ((i:Int)<(n:Int))=false by simp;omega,xaE]
theorem xFt {N:Nat} (he:∀ a,okE (enc a)=true) (hd:∀ a,ldE (enc a)=enc a) (hN:N≤2 ^ 60) {ok:α→Prop} {g:Int×List AV→Option ((Int×List AV)⊕List AV)} (e i:Nat) (hi:i=e+1) (hee:e≤2 ^ 60)
  (hg:∀ (k:Int) (xs:List AV),g (k,xs)=br (decide (k<IntKind.i64.wrap ((i:Int) - 1))) (xchK okE ldE N k (IntKind.i64.wrap (k+1)) xs none fun ys=>some (.inl (IntKind.i64.wrap (k+1),ys))) (some (.inr xs)))
  {k:Nat} {l r:List α} (hl:LOk N ok l) (hr:Iter (upStep e) (k,l)=some r):Iter g ((k:Int),List.map enc l)=some (List.map enc r)∧LOk N ok r:=by
 refine xgw (I:=fun s=>LOk N ok s.2) (J:=LOk N ok) (e:=fun s=>((s.1:Int),List.map enc s.2)) (f:=List.map enc) ?_ (s:=(k,l)) hl hr
 rintro ⟨k,l⟩ (hl:LOk N ok l)
 have we:IntKind.i64.wrap ((i:Int) - 1)=(e:Int):=w64 (by omega) (by omega)
 by_cases hk:k<e
 · cases hx:l[k]? with
   | none=>exact xec (by simp [upStep,hk,hx])
   | some x =>
    cases hy:l[k+1]? with
    | none=>exact xec (by simp [upStep,hk,hx,hy])
    | some y =>
     refine xjt (s0:=(k+1,(l.set k y).set (k+1) x)) (by simp [upStep,hk,hx,hy]) ?_ (hl.set2 (xdC hx) (xdC hy))
     rw [hg,we,show decide ((k:Int)<(e:Int))=true by simp [hk],xaD,w64 (n:=k+1) (by omega) (by omega),xwS he hd hl.len hx hy]
 · refine xjc (r0:=l) (by simp [upStep,hk]) ?_ hl
   rw [hg,we,show decide ((k:Int)<(e:Int))=false by simp;omega,xaE]
theorem xDd {N:Nat} (he:∀ a,okE (enc a)=true) (hd:∀ a,ldE (enc a)=enc a) (hN:N≤2 ^ 60) {ok:α→Prop} {g:Int×List AV→Option ((Int×List AV)⊕List AV)} (e:Nat)
  (hg:∀ (k:Int) (xs:List AV),g (k,xs)=br (decide (k>(e:Int))) (xchK okE ldE N k (IntKind.i64.wrap (k - 1)) xs none fun ys=>some (.inl (IntKind.i64.wrap (k - 1),ys))) (some (.inr xs)))
  {k:Nat} {l r:List α} (hl:LOk N ok l) (hr:Iter (downStep e) (k,l)=some r):Iter g ((k:Int),List.map enc l)=some (List.map enc r)∧LOk N ok r:=by
 refine xgw (I:=fun s=>LOk N ok s.2) (J:=LOk N ok) (e:=fun s=>((s.1:Int),List.map enc s.2)) (f:=List.map enc) ?_ (s:=(k,l)) hl hr
 rintro ⟨k,l⟩ (hl:LOk N ok l)
 by_cases hk:e<k
 · cases hx:l[k]? with
   | none=>exact xec (by simp [downStep,hk,hx])
   | some x =>
    cases hy:l[k - 1]? with
    | none=>exact xec (by simp [downStep,hk,hx,hy])
    | some y =>
     have hlen:=hl.len
     have:=xis hx
     refine xjt (s0:=(k - 1,(l.set k y).set (k - 1) x)) (by simp [downStep,hk,hx,hy]) ?_ (hl.set2 (xdC hx) (xdC hy))
     rw [hg,show decide ((k:Int)>(e:Int))=true by simp [hk],xaD,w64 (x:=(k:Int) - 1) (n:=k - 1) (by omega) (by omega),xwS he hd hl.len hx hy]
 · refine xjc (r0:=l) (by simp [downStep,hk]) ?_ hl
   rw [hg,show decide ((k:Int)>(e:Int))=false by simp;omega,xaE]
def cmpK {T:Type} (okE:AV→Bool) (N:Nat) (P:AV→AV→Bool) (u v:Int) (xs:List AV) (δ:T) (κ:AV→AV→T):T :=
 br (decide ((0:Int)≤u)&&decide (u<(N:Int))) (br (decide ((0:Nat)+u.toNat<xs.length)&&okE (xs.getD ((0:Nat)+u.toNat) AV.top))
 (br (decide ((0:Int)≤v)&&decide (v<(N:Int))) (br (decide ((0:Nat)+v.toNat<xs.length)&&okE (xs.getD ((0:Nat)+v.toNat) AV.top))
 (br (P (xs.getD ((0:Nat)+u.toNat) AV.top) (xs.getD ((0:Nat)+v.toNat) AV.top))
  (κ (xs.getD ((0:Nat)+u.toNat) AV.top) (xs.getD ((0:Nat)+v.toNat) AV.top)) δ) δ) δ) δ) δ
theorem xEL {T:Type} {N:Nat} (he:∀ a,okE (enc a)=true)  {P:AV→AV→Bool} {l:List α} (hl:l.length=N) {i j:Nat} {x y:α} (hx:l[i]?=some x) (hy:l[j]?=some y) (hP:P (enc x) (enc y)=true) {δ:T} {κ:AV→AV→T}:cmpK okE N P (i:Int) (j:Int) (List.map enc l) δ κ=κ (enc x) (enc y):=by
 have h1:=xis hx
 have h2:=xis hy
 have k1:(i:Int)<(N:Int):=by omega
 have k2:(j:Int)<(N:Int):=by omega
 have k4:i<(List.map enc l).length:=by simpa using h1
 have k5:j<(List.map enc l).length:=by simpa using h2
 unfold cmpK
 simp only [Int.toNat_natCast,Nat.zero_add,gR hx,gR hy,he,hP,k1,k2,k4,k5,decide_true,Bool.and_true,xaD,Int.natCast_nonneg]
def halfI (i j:Int):Int:=IntKind.i64.wrap ((IntKind.u64.wrap (IntKind.i64.wrap (i+j))).fdiv 2)
theorem xwv {N:Nat} (he:∀ a,okE (enc a)=true) (hN:N≤2 ^ 60) {ok:α→Prop} {c:α→α→Int} {P:AV→AV→Bool} {V:AV→AV→Int} (hc:∀ x y,ok x→ok y→P (enc x) (enc y)=true∧V (enc x) (enc y)=c x y)
  {g:Int×Int×List AV→Option ((Int×Int×List AV)⊕(Int×List AV))} (u v:Nat→Nat) (U V':Int→Int) (lo hi:Nat) (hhi:hi≤2 ^ 61) (hu:∀ h,lo≤h→h<hi→U (h:Int)=(u h:Int)) (hv:∀ h,lo≤h→h<hi→V' (h:Int)=(v h:Int)) (t:Int→Bool)
  (hg:∀ (i j:Int) (xs:List AV),g (i,j,xs)=br (decide (i<j)) (cmpK okE N P (U (halfI i j)) (V' (halfI i j)) xs none fun X Y=>br (t (V X Y)) (some (.inl (IntKind.i64.wrap (halfI i j+1),j,xs))) (some (.inl (i,halfI i j,xs)))) (some (.inr (i,xs))))
  {l:List α} (hl:LOk N ok l) {i j r:Nat} (h1:lo≤i) (h2:j≤hi) (h3:i≤hi) (hr:Iter (bsStep fun h=>(get2 c l (u h) (v h)).map t) (i,j)=some r):Iter g ((i:Int),(j:Int),List.map enc l)=some ((r:Int),List.map enc l)∧lo≤r∧r≤hi:=by
 refine xgw (I:=fun s=>lo≤s.1∧s.2≤hi∧s.1≤hi) (J:=fun r=>lo≤r∧r≤hi) (e:=fun (s:Nat×Nat)=>((s.1:Int),(s.2:Int),List.map enc l)) (f:=fun (r:Nat)=>((r:Int),List.map enc l)) ?_ (s:=(i,j)) ⟨h1,h2,h3⟩ hr
 rintro ⟨i,j⟩ ⟨h1,h2,h3⟩
 dsimp only at h1 h2 h3
 by_cases hij:i<j
 · have hh:halfI (i:Int) (j:Int)=(((i+j) / 2:Nat):Int):=half64 (by omega)
   have b1:lo≤(i+j) / 2:=by omega
   have b2:(i+j) / 2<hi:=by omega
   have hdec:decide ((i:Int)<(j:Int))=true:=by simp [hij]
   cases hx:l[u ((i+j) / 2)]? with
   | none=>exact xec (by simp [bsStep,hij,get2,hx])
   | some x =>
    cases hy:l[v ((i+j) / 2)]? with
    | none=>exact xec (by simp [bsStep,hij,get2,hx,hy])
    | some y =>
     obtain ⟨c1,c2⟩:=hc x y (hl.ok _ (xdC hx)) (hl.ok _ (xdC hy))
     have hgg:=hg (i:Int) (j:Int) (List.map enc l)
     rw [hdec,xaD,hh,hu _ b1 b2,hv _ b1 b2,xEL he hl.len hx hy c1,c2] at hgg
     cases ht:t (c x y) with
     | true =>
      rw [ht,xaD,w64 (n:=(i+j) / 2+1) (by omega) (by omega)] at hgg
      exact xjt (s0:=((i+j) / 2+1,j)) (by simp [bsStep,hij,get2,hx,hy,ht]) hgg ⟨by dsimp only;omega,h2,by dsimp only;omega⟩
     | false =>
      rw [ht,xaE] at hgg
      exact xjt (s0:=(i,(i+j) / 2)) (by simp [bsStep,hij,get2,hx,hy,ht]) hgg ⟨h1,by dsimp only;omega,h3⟩
 · have hdec:decide ((i:Int)<(j:Int))=false:=by simp;omega
   refine xjc (r0:=i) (by simp [bsStep,hij]) ?_ ⟨h1,h3⟩
   rw [hg,hdec,xaE]
theorem xEp {N:Nat} (hN:N≤2 ^ 60) {ok:α→Prop} {SW:Int→Int→Int→List AV→Option (List AV)} (hSW:∀ (a b n:Nat) (l r:List α),a≤2 ^ 60→b≤2 ^ 60→n≤2 ^ 60→LOk N ok l→swr a b n l=some r→SW a b n (List.map enc l)=some (List.map enc r)∧LOk N ok r)
  {g:Int×Int×List AV→Option ((Int×Int×List AV)⊕(Int×List AV))} (m:Nat) (hm:m≤N)
  (hg:∀ (i j:Int) (xs:List AV),g (i,j,xs)=br (i != j) (br (decide (i>j)) (br (SW (IntKind.i64.wrap ((m:Int) - i)) m j xs).isSome (some (.inl (IntKind.i64.wrap (i - j),j,(SW (IntKind.i64.wrap ((m:Int) - i)) m j xs).getD []))) none)
   (br (SW (IntKind.i64.wrap ((m:Int) - i)) (IntKind.i64.wrap (IntKind.i64.wrap ((m:Int)+j) - i)) i xs).isSome (some (.inl (i,IntKind.i64.wrap (j - i),(SW (IntKind.i64.wrap ((m:Int) - i)) (IntKind.i64.wrap (IntKind.i64.wrap ((m:Int)+j) - i)) i xs).getD []))) none)) (some (.inr (i,xs))))
  {i j:Nat} {l l':List α} {i':Nat} (hi:i≤m) (hj:m+j≤N) (hl:LOk N ok l) (hr:Iter (rotStep m) (i,j,l)=some (i',l')):Iter g ((i:Int),(j:Int),List.map enc l)=some ((i':Int),List.map enc l')∧i'≤m∧LOk N ok l':=by
 refine xgw (I:=fun s=>s.1≤m∧m+s.2.1≤N∧LOk N ok s.2.2) (J:=fun r=>r.1≤m∧LOk N ok r.2) (e:=fun (s:Nat×Nat×List α)=>((s.1:Int),(s.2.1:Int),List.map enc s.2.2)) (f:=fun (r:Nat×List α)=>((r.1:Int),List.map enc r.2)) ?_ (s:=(i,j,l)) ⟨hi,hj,hl⟩ hr
 rintro ⟨i,j,l⟩ ⟨hi,hj,hl⟩
 dsimp only at hi hj hl
 by_cases h1:i=j
 · subst h1
   refine xjc (r0:=(i,l)) (by simp [rotStep]) ?_ ⟨hi,hl⟩
   rw [hg];simp [xaE]
 · have d1:((i:Int) != (j:Int))=true:=by simp;omega
   have w1:IntKind.i64.wrap ((m:Int) - (i:Int))=((m - i:Nat):Int):=w64 (by omega) (by omega)
   by_cases h2:j<i
   · cases hs:swr (m - i) m j l with
     | none=>exact xec (by simp [rotStep,h1,h2,hs])
     | some l1 =>
      obtain ⟨e1,e2⟩:=hSW (m - i) m j l l1 (by omega) (by omega) (by omega) hl hs
      refine xjt (s0:=(i - j,j,l1)) (by simp [rotStep,h1,h2,hs]) ?_ ⟨by dsimp only;omega,hj,e2⟩
      rw [hg,d1,xaD,show decide ((i:Int)>(j:Int))=true by simp [h2],xaD,w1,e1,w64 (x:=(i:Int) - (j:Int)) (n:=i - j) (by omega) (by omega)]
      rfl
   · cases hs:swr (m - i) (m+j - i) i l with
     | none=>exact xec (by simp [rotStep,h1,h2,hs])
     | some l1 =>
      obtain ⟨e1,e2⟩:=hSW (m - i) (m+j - i) i l l1 (by omega) (by omega) (by omega) hl hs
      refine xjt (s0:=(i,j - i,l1)) (by simp [rotStep,h1,h2,hs]) ?_ ⟨hi,by dsimp only;omega,e2⟩
      rw [hg,d1,xaD,show decide ((i:Int)>(j:Int))=false by simp;omega,xaE,w1,w64 (x:=(m:Int)+(j:Int)) (n:=m+j) (by omega) (by omega),w64 (x:=((m+j:Nat):Int) - (i:Int)) (n:=m+j - i) (by omega) (by omega),e1,w64 (x:=(j:Int) - (i:Int)) (n:=j - i) (by omega) (by omega)]
      rfl
theorem xDr {N:Nat} (hN:N≤2 ^ 60) {ok:α→Prop} {c:α→α→Int} (a b:Nat) (hb:b≤N) {gi:Int→Int×List AV→Option ((Int×List AV)⊕List AV)}
  (hi:∀ (i:Nat) (l r:List α),LOk N ok l→Iter (insInner c a) (i,l)=some r→Iter (gi i) ((i:Int),List.map enc l)=some (List.map enc r)∧LOk N ok r)
  {g:Int×List AV→Option ((Int×List AV)⊕List AV)}
  (hg:∀ (i:Int) (xs:List AV),g (i,xs)=br (decide (i<(b:Int))) (br (Iter (gi i) (i,xs)).isSome (some (.inl (IntKind.i64.wrap (i+1),(Iter (gi i) (i,xs)).getD []))) none) (some (.inr xs)))
  {i:Nat} {l r:List α} (hl:LOk N ok l) (hr:Iter (insStep c a b) (i,l)=some r):Iter g ((i:Int),List.map enc l)=some (List.map enc r)∧LOk N ok r:=by
 refine xgw (I:=fun s=>LOk N ok s.2) (J:=LOk N ok) (e:=fun s=>((s.1:Int),List.map enc s.2)) (f:=List.map enc) ?_ (s:=(i,l)) hl hr
 rintro ⟨i,l⟩ (hl:LOk N ok l)
 by_cases h:i<b
 · cases hs:Iter (insInner c a) (i,l) with
   | none=>exact xec (by simp [insStep,h,hs])
   | some l1 =>
    obtain ⟨e1,e2⟩:=hi i l l1 hl hs
    refine xjt (s0:=(i+1,l1)) (by simp [insStep,h,hs]) ?_ e2
    rw [hg,show decide ((i:Int)<(b:Int))=true by simp [h],xaD,e1,w64 (x:=(i:Int)+1) (n:=i+1) (by omega) (by omega)]
    rfl
 · refine xjc (r0:=l) (by simp [insStep,h]) ?_ hl
   rw [hg,show decide ((i:Int)<(b:Int))=false by simp;omega,xaE]
theorem xwK {N:Nat} (hN:N≤2 ^ 60) {ok:α→Prop} (w:Nat) (hw:w≤2 ^ 61) {p:Nat×Nat×List α→Option ((Nat×Nat×List α)⊕(Nat×List α))} {F:Nat→Nat→List α→Option (List α)} (hp1:∀ a b l l',b≤N→F a b l=some l'→p (a,b,l)=some (.inl (b,b+w,l'))) (hp2:∀ a b l,b≤N→F a b l=none→p (a,b,l)=none) (hp3:∀ a b l,¬ b≤N→p (a,b,l)=some (.inr (a,l)))
  {G:Int→Int→List AV→Option (List AV)} (hF:∀ (a b:Nat) (l r:List α),a≤b→b=a+w→b≤N→LOk N ok l→F a b l=some r→G a b (List.map enc l)=some (List.map enc r)∧LOk N ok r)
  {g:Int×Int×List AV→Option ((Int×Int×List AV)⊕(Int×List AV))}
  (hg:∀ (a b:Int) (xs:List AV),g (a,b,xs)=br (decide (b≤(N:Int))) (br (G a b xs).isSome (some (.inl (b,IntKind.i64.wrap (b+(w:Int)),(G a b xs).getD []))) none) (some (.inr (a,xs))))
  {l l':List α} {a a':Nat} (hl:LOk N ok l) (hr:Iter p (a,a+w,l)=some (a',l')) (ha:a≤N):Iter g ((a:Int),((a+w:Nat):Int),List.map enc l)=some ((a':Int),List.map enc l')∧a'≤N∧N<a'+w∧LOk N ok l':=by
 refine xgw (I:=fun s=>s.1≤N∧s.2.1=s.1+w∧LOk N ok s.2.2) (J:=fun r=>r.1≤N∧N<r.1+w∧LOk N ok r.2) (e:=fun (s:Nat×Nat×List α)=>((s.1:Int),(s.2.1:Int),List.map enc s.2.2)) (f:=fun (r:Nat×List α)=>((r.1:Int),List.map enc r.2)) ?_ (s:=(a,a+w,l)) ⟨ha,rfl,hl⟩ hr
 rintro ⟨a,b,l⟩ ⟨h1,h2,hl⟩
 dsimp only at h1 h2 hl
 by_cases h:b≤N
 · cases hs:F a b l with
   | none=>exact xec (hp2 _ _ _ h hs)
   | some l1 =>
    obtain ⟨e1,e2⟩:=hF a b l l1 (by omega) h2 h hl hs
    refine xjt (s0:=(b,b+w,l1)) (hp1 _ _ _ _ h hs) ?_ ⟨h,rfl,e2⟩
    rw [hg,show decide ((b:Int)≤(N:Int))=true by simp [h],xaD,e1,w64 (x:=(b:Int)+(w:Int)) (n:=b+w) (by omega) (by omega)]
    rfl
 · refine xjc (r0:=(a,l)) (hp3 _ _ _ h) ?_ ⟨h1,by dsimp only;omega,hl⟩
   rw [hg,show decide ((b:Int)≤(N:Int))=false by simp;omega,xaE]
end
end Go.Sim.M
end
noncomputable section
set_option maxRecDepth 100000
namespace Go.Sim.M
open Go.RowKit Go.Sim.Srt
def okEA (x:AV):Bool:=hasSh1 (Sh.list 3) (x.cells.getD 0 AV.top)
def ldEA (x:AV):AV:=AV.list 3 (x.cells.getD 0 AV.top).toList
abbrev encA:Row→AV:=encR
noncomputable def cmpPA (x y:AV):Bool:=(xbL (x.cells.getD 0 AV.top).toList (y.cells.getD 0 AV.top).toList).isSome
noncomputable def cmpVA (x y:AV):Int:=(xbL (x.cells.getD 0 AV.top).toList (y.cells.getD 0 AV.top).toList).getD 0
theorem ceA (x:Row):(encA x).cells.getD 0 AV.top=encA x:=rfl
theorem shA (x:Row):hasSh1 (Sh.list 3) (encA x)=true:=rfl
theorem tlA (x:Row):(encA x).toList=x.map encV:=rfl
theorem heA (a:Row):okEA (encA a)=true:=rfl
theorem hdA (a:Row):ldEA (encA a)=encA a:=rfl
section
variable {N : Nat} (hN : N ≤ 2 ^ 60) {ok : Row → Prop} {c : Row → Row → Int} (hc : ∀ x y, ok x → ok y → cmpPA (encA x) (encA y) = true ∧ cmpVA (encA x) (encA y) = c x y)
include hN
theorem xD4 (a b n:Nat) (l r:List Row) (ha:a≤2 ^ 60) (hb:b≤2 ^ 60) (hn:n≤2 ^ 60) (hl:LOk N ok l) (hr:swr a b n l=some r):xaM N a b n (List.map encA l)=some (List.map encA r)∧LOk N ok r:=by
 obtain ⟨e1,e2⟩:=xEK (okE:=okEA) (ldE:=ldEA) heA hdA hN a b n ha hb hn (g:=xa2 N a b n) (fun i xs=>rfl) hl hr
 refine ⟨?_,e2⟩
 unfold xaM xdp
 rw [e1];rfl
theorem xFO (a m b:Nat) (l r:List Row) (h1:a≤m) (h2:m≤b) (h3:b≤N) (hl:LOk N ok l) (hr:rot a m b l=some r):xa1 N a m b (List.map encA l)=some (List.map encA r)∧LOk N ok r:=by
 unfold rot at hr
 cases hi:Iter (rotStep m) (m - a,b - m,l) with
 | none=>rw [hi] at hr;simp at hr
 | some p =>
  obtain ⟨i,l'⟩:=p
  rw [hi] at hr
  obtain ⟨e1,e2,e3⟩:=xEp (enc:=encA) hN (ok:=ok) (SW:=fun a b n xs=>xaM N a b n xs) (fun a b n l r ha hb hn hl hr=>xD4 hN a b n l r ha hb hn hl hr) m (by omega) (g:=xbF N m) (fun i j xs=>rfl) (by omega) (by omega) hl hi
  obtain ⟨e4,e5⟩:=xD4 hN (m - i) m i l' r (by omega) (by omega) (by omega) e3 hr
  refine ⟨?_,e5⟩
  simp only [xa1,xdV,xfp,xfl,xfs,xfr,w64 (x:=(m:Int) - (a:Int)) (n:=m - a) (by omega) (by omega),w64 (x:=(b:Int) - (m:Int)) (n:=b - m) (by omega) (by omega),e1,Option.getD_some,Option.isSome_some,xaD,w64 (x:=(m:Int) - (i:Int)) (n:=m - i) (by omega) (by omega),e4]
include hc
theorem xDS (a b:Nat) (ha:a≤N) (hb:b≤N) {l r:List Row} (hl:LOk N ok l) (hr:insSort c a b l=some r):xaN N a b (List.map encA l)=some (List.map encA r)∧LOk N ok r:=by
 obtain ⟨e1,e2⟩:=xDr (enc:=encA) hN (c:=c) (ok:=ok) a b hb (gi:=fun i=>xaR N a b i) (fun i l r hl hr=>xEA (okE:=okEA) (ldE:=ldEA) heA hdA hN (P:=cmpPA) (V:=cmpVA) hc a (fun j xs=>rfl) hl hr) (g:=xaS N a b) (fun i xs=>rfl) hl hr
 refine ⟨?_,e2⟩
 unfold xaN xcJ
 rw [w64 (x:=(a:Int)+1) (n:=a+1) (by omega) (by omega),e1];rfl
theorem xDT:∀ (f a m b:Nat) (l r:List Row),a<m→m<b→b≤N→LOk N ok l→symM c f a m b l=some r→xaI f N a m b (List.map encA l)=some (List.map encA r)∧LOk N ok r:=by
 intro f
 induction f with
 | zero=>intro a m b l r _ _ _ _ hr;simp [symM] at hr
 | succ f ih =>
  intro a m b l r ham hmb hb hl hr
  unfold symM at hr
  show xas (xaI f) N a m b (List.map encA l)=some (List.map encA r)∧LOk N ok r
  have wma:IntKind.i64.wrap ((m:Int) - (a:Int))=((m - a:Nat):Int):=w64 (by omega) (by omega)
  have wbm:IntKind.i64.wrap ((b:Int) - (m:Int))=((b - m:Nat):Int):=w64 (by omega) (by omega)
  by_cases h1:m - a=1
  · rw [if_pos h1] at hr
    cases hi:Iter (bsStep fun h=>(get2 c l h a).map fun r=>decide (r<0)) (m,b) with
    | none=>rw [hi] at hr;simp at hr
    | some i =>
     rw [hi] at hr
     obtain ⟨e0,b1,b2⟩:=xwv (okE:=okEA) heA hN (P:=cmpPA) (V:=cmpVA) hc (fun h=>h) (fun _=>a) (fun h=>h) (fun _=>(a:Int)) m b (by omega) (fun _ _ _=>rfl) (fun _ _ _=>rfl) (fun r=>decide (r<0)) (g:=xaT N a) (fun i j xs=>rfl) hl (Nat.le_refl _) (Nat.le_refl _) (by omega) hi
     obtain ⟨e1,e2⟩:=xFt (okE:=okEA) (ldE:=ldEA) heA hdA hN (ok:=ok) (i - 1) i (by omega) (by omega) (g:=xbq N i) (fun k xs=>rfl) hl hr
     refine ⟨?_,e2⟩
     simp only [xas,xaC,xam,xak,xae,xal,xan,xad,xag,xaf,xab,xac,xao,xar,xaq,xaa,xap,xay,xau,xat,xav,xaz,xaA,xaB,xaw,xaj,xai,wma,h1,e0,Option.getD_some,Option.isSome_some,xaD,e1,Int.natCast_one,beq_self_eq_true]
  · rw [if_neg h1] at hr
    have d1:(((m - a:Nat):Int)==1)=false:=by simp;omega
    by_cases h2:b - m=1
    · rw [if_pos h2] at hr
      cases hi:Iter (bsStep fun h=>(get2 c l m h).map fun r=>!decide (r<0)) (a,m) with
      | none=>rw [hi] at hr;simp at hr
      | some i =>
       rw [hi] at hr
       obtain ⟨e0,b1,b2⟩:=xwv (okE:=okEA) heA hN (P:=cmpPA) (V:=cmpVA) hc (fun _=>m) (fun h=>h) (fun _=>(m:Int)) (fun h=>h) a m (by omega) (fun _ _ _=>rfl) (fun _ _ _=>rfl) (fun r=>!decide (r<0)) (g:=xaU N m) (fun i j xs=>rfl) hl (Nat.le_refl _) (Nat.le_refl _) (by omega) hi
       obtain ⟨e1,e2⟩:=xDd (okE:=okEA) (ldE:=ldEA) heA hdA hN (ok:=ok) i (g:=xbo N i) (fun k xs=>rfl) hl hr
       refine ⟨?_,e2⟩
       simp only [xas,xaC,xam,xak,xae,xal,xan,xad,xag,xaf,xab,xac,xao,xar,xaq,xaa,xap,xay,xau,xat,xav,xaz,xaA,xaB,xaw,xaj,xai,wma,wbm,d1,h2,e0,Option.getD_some,Option.isSome_some,xaD,xaE,e1,Int.natCast_one,beq_self_eq_true]
    · rw [if_neg h2] at hr
      have d2:(((b - m:Nat):Int)==1)=false:=by simp;omega
      have hh:IntKind.i64.wrap ((IntKind.u64.wrap (IntKind.i64.wrap ((a:Int)+(b:Int)))).fdiv 2)=(((a+b) / 2:Nat):Int):=half64 (by omega)
      obtain ⟨mid,hmid⟩:∃ mid,mid=(a+b) / 2:=⟨_,rfl⟩
      rw [←hmid] at hr hh
      have w2:IntKind.i64.wrap ((mid:Int)+(m:Int))=((mid+m:Nat):Int):=w64 (by omega) (by omega)
      have w3:IntKind.i64.wrap (((mid+m:Nat):Int) - 1)=((mid+m - 1:Nat):Int):=w64 (by omega) (by omega)
      obtain ⟨lo,hi,hlh,g1,g2,g3,g4,hst⟩:∃ lo hi,(if mid<m then (mid+m - b,mid) else (a,m))=(lo,hi)∧a≤lo∧lo≤hi∧hi≤m∧hi≤mid∧((mid<m∧lo=mid+m - b∧hi=mid)∨(¬ mid<m∧lo=a∧hi=m)):=by
       by_cases h:mid<m
       · exact ⟨_,_,if_pos h,by omega,by omega,by omega,by omega,.inl ⟨h,rfl,rfl⟩⟩
       · exact ⟨_,_,if_neg h,by omega,by omega,by omega,by omega,.inr ⟨h,rfl,rfl⟩⟩
      rw [hlh] at hr
      cases hs:Iter (bsStep fun h=>(get2 c l (mid+m - 1 - h) h).map fun r=>!decide (r<0)) (lo,hi) with
      | none=>rw [hs] at hr;simp at hr
      | some s =>
       rw [hs] at hr
       dsimp only at hr
       obtain ⟨e0,b1,b2⟩:=xwv (okE:=okEA) heA hN (P:=cmpPA) (V:=cmpVA) hc (fun h=>mid+m - 1 - h) (fun h=>h) (fun h=>IntKind.i64.wrap (((mid+m - 1:Nat):Int) - h)) (fun h=>h) lo hi (by omega) (fun h _ _=>w64 (by omega) (by omega)) (fun _ _ _=>rfl) (fun r=>!decide (r<0)) (g:=xa4 N a m b mid ((mid+m:Nat):Int) ((mid+m - 1:Nat):Int)) (fun i j xs=>rfl) hl (Nat.le_refl _) (Nat.le_refl _) g2 hs
       have w5:IntKind.i64.wrap (((mid+m:Nat):Int) - (s:Int))=((mid+m - s:Nat):Int):=w64 (by omega) (by omega)
       obtain ⟨e,he⟩:∃ e,e=mid+m - s:=⟨_,rfl⟩
       rw [←he] at hr w5
       cases hrot:(if s<m∧m<e then rot s m e l else some l) with
       | none=>rw [hrot] at hr;simp at hr
       | some l1 =>
        rw [hrot] at hr
        dsimp only at hr
        have k1:(s<m∧m<e∧xa1 N s m e (List.map encA l)=some (List.map encA l1)∧LOk N ok l1)∨(¬ (s<m∧m<e)∧l1=l):=by
         by_cases h:s<m∧m<e
         · rw [if_pos h] at hrot
           obtain ⟨x1,x2⟩:=xFO hN s m e l l1 (by omega) (by omega) (by omega) hl hrot
           exact .inl ⟨h.1,h.2,x1,x2⟩
         · rw [if_neg h] at hrot
           simp only [Option.some.injEq] at hrot
           exact .inr ⟨h,hrot.symm⟩
        have hl1:LOk N ok l1:=by
         rcases k1 with k|k
         · exact k.2.2.2
         · rw [k.2];exact hl
        cases hlf:(if a<s∧s<mid then symM c f a s mid l1 else some l1) with
        | none=>rw [hlf] at hr;simp at hr
        | some l2 =>
         rw [hlf] at hr
         dsimp only at hr
         have k2:(a<s∧s<mid∧xaI f N a s mid (List.map encA l1)=some (List.map encA l2)∧LOk N ok l2)∨(¬ (a<s∧s<mid)∧l2=l1):=by
          by_cases h:a<s∧s<mid
          · rw [if_pos h] at hlf
            obtain ⟨x1,x2⟩:=ih a s mid l1 l2 h.1 h.2 (by omega) hl1 hlf
            exact .inl ⟨h.1,h.2,x1,x2⟩
          · rw [if_neg h] at hlf
            simp only [Option.some.injEq] at hlf
            exact .inr ⟨h,hlf.symm⟩
         have hl2:LOk N ok l2:=by
          rcases k2 with k|k
          · exact k.2.2.2
          · rw [k.2];exact hl1
         have k3:(mid<e∧e<b∧xaI f N mid e b (List.map encA l2)=some (List.map encA r)∧LOk N ok r)∨(¬ (mid<e∧e<b)∧r=l2):=by
          by_cases h:mid<e∧e<b
          · rw [if_pos h] at hr
            obtain ⟨x1,x2⟩:=ih mid e b l2 r h.1 h.2 hb hl2 hr
            exact .inl ⟨h.1,h.2,x1,x2⟩
          · rw [if_neg h] at hr
            simp only [Option.some.injEq] at hr
            exact .inr ⟨h,hr.symm⟩
         refine ⟨?_,?_⟩
         · clear ih hc hl hl1 hl2 hr hlf hrot hs hlh
           rcases hst with ⟨hm,hlo,hhi⟩|⟨hm,hlo,hhi⟩
           · rw [hlo,hhi] at e0
             have w4:IntKind.i64.wrap (((mid+m:Nat):Int) - (b:Int))=((mid+m - b:Nat):Int):=w64 (by omega) (by omega)
             have dm:decide ((m:Int)>(mid:Int))=true:=by simp [hm]
             rcases k1 with ⟨p1,p2,p3,_⟩|⟨p1,rfl⟩<;>rcases k2 with ⟨q1,q2,q3,_⟩|⟨q1,rfl⟩<;>rcases k3 with ⟨r1,r2,r3,_⟩|⟨r1,rfl⟩ <;>
              (by_cases t1:s<m<;>by_cases t2:m<e<;>by_cases t3:a<s<;>by_cases t4:s<mid<;>by_cases t5:mid<e<;>by_cases t6:e<b<;>first|(exfalso;omega) |
               (simp only [xas,xaC,xam,xak,xae,xal,xan,xad,xag,xaf,xab,xac,xao,xar,xaq,xaa,xap,xay,xau,xat,xav,xaz,xaA,xaB,xaw,xaj,xai,wma,wbm,d1,d2,hh,w2,w3,w4,dm,e0,w5,Option.getD_some,Option.isSome_some,xaD,xaE,Int.ofNat_lt,t1,t2,t3,t4,t5,t6,decide_true,decide_false,hm,p3,q3,r3]) |
               (simp only [xas,xaC,xam,xak,xae,xal,xan,xad,xag,xaf,xab,xac,xao,xar,xaq,xaa,xap,xay,xau,xat,xav,xaz,xaA,xaB,xaw,xaj,xai,wma,wbm,d1,d2,hh,w2,w3,w4,dm,e0,w5,Option.getD_some,Option.isSome_some,xaD,xaE,Int.ofNat_lt,t1,t2,t3,t4,t5,t6,decide_true,decide_false,hm,p3,q3]) |
               (simp only [xas,xaC,xam,xak,xae,xal,xan,xad,xag,xaf,xab,xac,xao,xar,xaq,xaa,xap,xay,xau,xat,xav,xaz,xaA,xaB,xaw,xaj,xai,wma,wbm,d1,d2,hh,w2,w3,w4,dm,e0,w5,Option.getD_some,Option.isSome_some,xaD,xaE,Int.ofNat_lt,t1,t2,t3,t4,t5,t6,decide_true,decide_false,hm,p3,r3]) |
               (simp only [xas,xaC,xam,xak,xae,xal,xan,xad,xag,xaf,xab,xac,xao,xar,xaq,xaa,xap,xay,xau,xat,xav,xaz,xaA,xaB,xaw,xaj,xai,wma,wbm,d1,d2,hh,w2,w3,w4,dm,e0,w5,Option.getD_some,Option.isSome_some,xaD,xaE,Int.ofNat_lt,t1,t2,t3,t4,t5,t6,decide_true,decide_false,hm,q3,r3]) |
               (simp only [xas,xaC,xam,xak,xae,xal,xan,xad,xag,xaf,xab,xac,xao,xar,xaq,xaa,xap,xay,xau,xat,xav,xaz,xaA,xaB,xaw,xaj,xai,wma,wbm,d1,d2,hh,w2,w3,w4,dm,e0,w5,Option.getD_some,Option.isSome_some,xaD,xaE,Int.ofNat_lt,t1,t2,t3,t4,t5,t6,decide_true,decide_false,hm,p3]) |
               (simp only [xas,xaC,xam,xak,xae,xal,xan,xad,xag,xaf,xab,xac,xao,xar,xaq,xaa,xap,xay,xau,xat,xav,xaz,xaA,xaB,xaw,xaj,xai,wma,wbm,d1,d2,hh,w2,w3,w4,dm,e0,w5,Option.getD_some,Option.isSome_some,xaD,xaE,Int.ofNat_lt,t1,t2,t3,t4,t5,t6,decide_true,decide_false,hm,q3]) |
               (simp only [xas,xaC,xam,xak,xae,xal,xan,xad,xag,xaf,xab,xac,xao,xar,xaq,xaa,xap,xay,xau,xat,xav,xaz,xaA,xaB,xaw,xaj,xai,wma,wbm,d1,d2,hh,w2,w3,w4,dm,e0,w5,Option.getD_some,Option.isSome_some,xaD,xaE,Int.ofNat_lt,t1,t2,t3,t4,t5,t6,decide_true,decide_false,hm,r3]) |
               (simp only [xas,xaC,xam,xak,xae,xal,xan,xad,xag,xaf,xab,xac,xao,xar,xaq,xaa,xap,xay,xau,xat,xav,xaz,xaA,xaB,xaw,xaj,xai,wma,wbm,d1,d2,hh,w2,w3,w4,dm,e0,w5,Option.getD_some,Option.isSome_some,xaD,xaE,Int.ofNat_lt,t1,t2,t3,t4,t5,t6,decide_true,decide_false,hm]))
           · rw [hlo,hhi] at e0
             have dm:decide ((m:Int)>(mid:Int))=false:=by simp;omega
             rcases k1 with ⟨p1,p2,p3,_⟩|⟨p1,rfl⟩<;>rcases k2 with ⟨q1,q2,q3,_⟩|⟨q1,rfl⟩<;>rcases k3 with ⟨r1,r2,r3,_⟩|⟨r1,rfl⟩ <;>
              (by_cases t1:s<m<;>by_cases t2:m<e<;>by_cases t3:a<s<;>by_cases t4:s<mid<;>by_cases t5:mid<e<;>by_cases t6:e<b<;>first|(exfalso;omega) |
               (simp only [xas,xaC,xam,xak,xae,xal,xan,xad,xag,xaf,xab,xac,xao,xar,xaq,xaa,xap,xay,xau,xat,xav,xaz,xaA,xaB,xaw,xaj,xai,wma,wbm,d1,d2,hh,w2,w3,dm,e0,w5,Option.getD_some,Option.isSome_some,xaD,xaE,Int.ofNat_lt,t1,t2,t3,t4,t5,t6,decide_true,decide_false,hm,p3,q3,r3]) |
               (simp only [xas,xaC,xam,xak,xae,xal,xan,xad,xag,xaf,xab,xac,xao,xar,xaq,xaa,xap,xay,xau,xat,xav,xaz,xaA,xaB,xaw,xaj,xai,wma,wbm,d1,d2,hh,w2,w3,dm,e0,w5,Option.getD_some,Option.isSome_some,xaD,xaE,Int.ofNat_lt,t1,t2,t3,t4,t5,t6,decide_true,decide_false,hm,p3,q3]) |
               (simp only [xas,xaC,xam,xak,xae,xal,xan,xad,xag,xaf,xab,xac,xao,xar,xaq,xaa,xap,xay,xau,xat,xav,xaz,xaA,xaB,xaw,xaj,xai,wma,wbm,d1,d2,hh,w2,w3,dm,e0,w5,Option.getD_some,Option.isSome_some,xaD,xaE,Int.ofNat_lt,t1,t2,t3,t4,t5,t6,decide_true,decide_false,hm,p3,r3]) |
               (simp only [xas,xaC,xam,xak,xae,xal,xan,xad,xag,xaf,xab,xac,xao,xar,xaq,xaa,xap,xay,xau,xat,xav,xaz,xaA,xaB,xaw,xaj,xai,wma,wbm,d1,d2,hh,w2,w3,dm,e0,w5,Option.getD_some,Option.isSome_some,xaD,xaE,Int.ofNat_lt,t1,t2,t3,t4,t5,t6,decide_true,decide_false,hm,q3,r3]) |
               (simp only [xas,xaC,xam,xak,xae,xal,xan,xad,xag,xaf,xab,xac,xao,xar,xaq,xaa,xap,xay,xau,xat,xav,xaz,xaA,xaB,xaw,xaj,xai,wma,wbm,d1,d2,hh,w2,w3,dm,e0,w5,Option.getD_some,Option.isSome_some,xaD,xaE,Int.ofNat_lt,t1,t2,t3,t4,t5,t6,decide_true,decide_false,hm,p3]) |
               (simp only [xas,xaC,xam,xak,xae,xal,xan,xad,xag,xaf,xab,xac,xao,xar,xaq,xaa,xap,xay,xau,xat,xav,xaz,xaA,xaB,xaw,xaj,xai,wma,wbm,d1,d2,hh,w2,w3,dm,e0,w5,Option.getD_some,Option.isSome_some,xaD,xaE,Int.ofNat_lt,t1,t2,t3,t4,t5,t6,decide_true,decide_false,hm,q3]) |
               (simp only [xas,xaC,xam,xak,xae,xal,xan,xad,xag,xaf,xab,xac,xao,xar,xaq,xaa,xap,xay,xau,xat,xav,xaz,xaA,xaB,xaw,xaj,xai,wma,wbm,d1,d2,hh,w2,w3,dm,e0,w5,Option.getD_some,Option.isSome_some,xaD,xaE,Int.ofNat_lt,t1,t2,t3,t4,t5,t6,decide_true,decide_false,hm,r3]) |
               (simp only [xas,xaC,xam,xak,xae,xal,xan,xad,xag,xaf,xab,xac,xao,xar,xaq,xaa,xap,xay,xau,xat,xav,xaz,xaA,xaB,xaw,xaj,xai,wma,wbm,d1,d2,hh,w2,w3,dm,e0,w5,Option.getD_some,Option.isSome_some,xaD,xaE,Int.ofNat_lt,t1,t2,t3,t4,t5,t6,decide_true,decide_false,hm]))
         · rcases k3 with k|k
           · exact k.2.2.2
           · rw [k.2];exact hl2
theorem xDO {l r:List Row} (hl:LOk N ok l) (hr:stable c 1000 N l=some r):xbx N N (List.map encA l)=some (List.map encA r)∧LOk N ok r:=by
 unfold stable at hr
 cases h1:Iter (stIns c N) (0,20,l) with
 | none=>rw [h1] at hr;simp at hr
 | some p =>
  obtain ⟨a,l1⟩:=p
  rw [h1] at hr
  dsimp only at hr
  obtain ⟨e1,ha,_,hl1⟩:=xwK (enc:=encA) hN (ok:=ok) 20 (by omega) (p:=stIns c N) (F:=fun a b l=>insSort c a b l) (fun a b l l' h e=>by simp only [stIns,h,if_true,e]) (fun a b l h e=>by simp only [stIns,h,if_true,e]) (fun a b l h=>by simp only [stIns,h,if_false]) (G:=fun a b xs=>xaN N a b xs) (fun a b l r hab _ hb hl hr=>xDS hN hc a b (by omega) hb hl hr) (g:=xaZ N N 20) (fun a b xs=>rfl) (a:=0) hl h1 (by omega)
  cases h2:insSort c a N l1 with
  | none=>rw [h2] at hr;simp at hr
  | some l2 =>
   rw [h2] at hr
   dsimp only at hr
   obtain ⟨e2,hl2⟩:=xDS hN hc a N ha (Nat.le_refl _) hl1 h2
   have e3:Iter (xaK N N) (((20:Nat):Int),List.map encA l2)=some (List.map encA r)∧LOk N ok r:=by
    refine xgw (I:=fun s=>1≤s.1∧LOk N ok s.2) (J:=LOk N ok) (e:=fun (s:Nat×List Row)=>((s.1:Int),List.map encA s.2)) (f:=List.map encA) ?_ (s:=(20,l2)) ⟨by omega,hl2⟩ hr
    rintro ⟨bs,l⟩ ⟨hb,hl⟩
    dsimp only at hb hl
    by_cases h:bs<N
    · have wb:IntKind.i64.wrap (2*(bs:Int))=((2*bs:Nat):Int):=w64 (by omega) (by omega)
      have wb':IntKind.i64.wrap ((bs:Int)*2)=((bs*2:Nat):Int):=w64 (by omega) (by omega)
      cases h3:Iter (stMrgIn c 1000 bs N) (0,2*bs,l) with
      | none=>exact xec (by simp [stMrg,h,h3])
      | some p =>
       obtain ⟨a,l3⟩:=p
       obtain ⟨f1,f2,f3,f4⟩:=xwK (enc:=encA) hN (ok:=ok) (2*bs) (by omega) (p:=stMrgIn c 1000 bs N) (F:=fun a b l=>symM c 1000 a (a+bs) b l) (fun a b l l' h e=>by simp only [stMrgIn,h,if_true,e]) (fun a b l h e=>by simp only [stMrgIn,h,if_true,e]) (fun a b l h=>by simp only [stMrgIn,h,if_false]) (G:=fun a b xs=>xaI 1000 N a (IntKind.i64.wrap (a+(bs:Int))) b xs) (fun a b l r hab hb2 hbN hl hr=>by
        have:=xDT hN hc 1000 a (a+bs) b l r (by omega) (by omega) hbN hl hr
        rw [w64 (x:=(a:Int)+(bs:Int)) (n:=a+bs) (by omega) (by omega)]
        exact this) (g:=xbc N N bs) (fun a b xs=>by rw [←wb];rfl) (a:=0) hl (by rw [Nat.zero_add];exact h3) (by omega)
       rw [Nat.zero_add,←wb] at f1
       have f1':Iter (xbc N N bs) ((0:Int),IntKind.i64.wrap (2*(bs:Int)),List.map encA l)=some ((a:Int),List.map encA l3):=f1
       have wab:IntKind.i64.wrap ((a:Int)+(bs:Int))=((a+bs:Nat):Int):=w64 (by omega) (by omega)
       by_cases h4:a+bs<N
       · cases h5:symM c 1000 a (a+bs) N l3 with
         | none=>exact xec (by simp [stMrg,h,h3,h4,h5])
         | some l4 =>
          obtain ⟨f5,f6⟩:=xDT hN hc 1000 a (a+bs) N l3 l4 (by omega) h4 (Nat.le_refl _) f4 h5
          refine xjt (s0:=(bs*2,l4)) (by simp [stMrg,h,h3,h4,h5]) ?_ ⟨by dsimp only;omega,f6⟩
          have q1:(bs:Int)<(N:Int):=by omega
          have q2:((a+bs:Nat):Int)<(N:Int):=by omega
          simp only [xaK,xb9,xc7,xdf,xc8,xda,xdg,xde,f1',q1,q2,decide_true,xaD,Option.isSome_some,Option.getD_some,wab,f5,wb']
       · refine xjt (s0:=(bs*2,l3)) (by simp [stMrg,h,h3,h4]) ?_ ⟨by dsimp only;omega,f4⟩
         have q1:(bs:Int)<(N:Int):=by omega
         have q2:¬ ((a+bs:Nat):Int)<(N:Int):=by omega
         simp only [xaK,xb9,xc7,xdf,xc8,xda,xdg,xde,f1',q1,q2,decide_true,decide_false,xaD,xaE,Option.isSome_some,Option.getD_some,wab,wb']
    · refine xjc (r0:=l) (by simp [stMrg,h]) ?_ hl
      have q1:¬ (bs:Int)<(N:Int):=by omega
      simp only [xaK,xb9,q1,decide_false,xaE]
   have e1':Iter (xaZ N N 20) ((0:Int),(20:Int),List.map encA l)=some ((a:Int),List.map encA l1):=e1
   have e3':Iter (xaK N N) ((20:Int),List.map encA l2)=some (List.map encA r):=e3.1
   refine ⟨?_,e3.2⟩
   simp only [xbx,xdU,xfm,xfn,xfo,e1',e2,e3',Option.isSome_some,Option.getD_some,xaD]
end
theorem xFj {N:Nat} (hN:N*24≤140737488355328) (l:List Row) (hl:l.length=N) (hr:∀ x,x∈l→x.length≤4398046511104):∀ (k i:Nat),i+k=N→Iter (xa8 (List.map encA l) N) (i,(i:Int),List.map encA (l.take i))=some (N,List.map encA l):=by
 intro k
 induction k with
 | zero =>
  intro i hi
  refine xaP ?_
  have:¬ (i:Int)<(N:Int):=by omega
  simp only [xa8,xer,this,decide_false,xaE]
  rw [List.take_of_length_le (by omega),show i=N by omega]
 | succ k ih =>
  intro i hi
  have hil:i<l.length:=by omega
  refine xbk (s':=(i+1,((i+1:Nat):Int),List.map encA (l.take (i+1)))) ?_ (ih (i+1) (by omega))
  have hx:l[i]?=some l[i]:=by simp [hil]
  have k1:(i:Int)<(N:Int):=by omega
  have k2:(i:Int)<((List.map encA l).length:Int):=by simp;omega
  have k2':(i:Int)<(l.length:Int):=by omega
  have k3:i<(List.map encA l).length:=by simpa using hil
  have k4:=hr l[i] (List.getElem_mem hil)
  have k5:(List.map encA (l.take i)).length=i:=by simp;omega
  have k6:(i+1)*24≤140737488355328:=by omega
  have k7:i+1≤4611686018427387904:=by omega
  have k8:List.map encA (l.take (i+1))=List.map encA (l.take i)++[AV.list 3 (l[i].map encV)]:=by
   rw [List.take_add_one,hx,List.map_append];rfl
  simp only [xa8,xer,k1,k2,k2',k3,hil,decide_true,xaD,Int.natCast_nonneg,Bool.and_true,Bool.true_and,Int.toNat_natCast,gR hx,ceA,shA,tlA,List.length_map,k4,k5,beq_self_eq_true,k6,k7,w64 (x:=(i:Int)+1) (n:=i+1) (by omega) (by omega),k8]
theorem xDa {N:Nat} (hN:N*24≤140737488355328) {c:Row→Row→Int} (hc:∀ x y:Row,x.length≤4398046511104→y.length≤4398046511104→cmpPA (encA x) (encA y)=true∧cmpVA (encA x) (encA y)=c x y) (l r:List Row) (hl:l.length=N) (ho:∀ x,x∈l→x.length≤4398046511104) (hr:stable c 1000 N l=some r) :
  xgv (List.map encA l)=some (List.map encA r):=by
 obtain ⟨e1,e2⟩:=xDO (N:=N) (by omega) (ok:=fun x=>x.length≤4398046511104) hc ⟨hl,ho⟩ hr
 have e0:=xFj hN l hl ho N 0 (by omega)
 have e0':Iter (xa8 (List.map encA l) (N:Int)) (0,(0:Int),[])=some (N,List.map encA l):=e0
 have k1:(List.map encA l).length=N:=by simpa using hl
 have k2:(24:Int)*(N:Int)≤281474976710656:=by omega
 have k3:(N:Int)≤4611686018427387904:=by omega
 have k4:0+N≤(List.map encA r).length:=by simp;exact Nat.le_of_eq e2.len.symm
 have k4':N≤r.length:=Nat.le_of_eq e2.len.symm
 have k5:List.take N (List.map encA r)=List.map encA r:=List.take_of_length_le (by simp;exact Nat.le_of_eq e2.len)
 simp only [xgv,xkq,xeE,xhH,xiZ,xi6,xgS,xi1,k1,e0',xcA,xdP,e1,k2,k3,k4,k4',decide_true,List.length_map,Bool.true_and,Bool.and_true,xaD,Option.isSome_some,Option.getD_some,List.drop_zero,Nat.zero_add,k5,Int.natCast_nonneg]
 try simp
end Go.Sim.M
end
noncomputable section
set_option maxRecDepth 100000
namespace Go.Sim.M
open Go.RowKit Go.Sim.Srt
def Short (l:List Row):Prop:=l.length≤1048576∧∀ x,x∈l→x.length≤1048576
theorem Short.perm {l l':List Row} (h:Short l) (hp:l'.Perm l):Short l':=⟨by rw [hp.length_eq];exact h.1,fun x hx=>h.2 x (hp.mem_iff.1 hx)⟩
theorem xzN {n f:Nat} (h:n≤1048576) (hf:20≤f):n≤2 ^ f:=Nat.le_trans h (Nat.pow_le_pow_right (n:=2) (by omega) hf:2 ^ 20≤2 ^ f)
theorem xE9 (x y:Row) (hx:x.length≤4398046511104):cmpPA (encA x) (encA y)=true∧cmpVA (encA x) (encA y)=cmpR x y:=by
 unfold cmpPA cmpVA
 rw [ceA,ceA,tlA,tlA,xvs x y (by unfold maxLen;omega)]
 exact ⟨rfl,rfl⟩
theorem xEW (l:List Row) (h:Short l):∃ r,xgv (l.map encR)=some (r.map encR)∧r.Perm l∧Sorted cmpR r:=by
 obtain ⟨r,e,p,s⟩:=(fun F (hF:20≤F)=>xyX xsU.ord F l.length (xzN h.1 hF) l rfl) 1000 (by decide)
 exact ⟨r,xDa (N:=l.length) (by have:=h.1;omega) (c:=cmpR) (fun x y hx hy=>xE9 x y hx) l r rfl (fun x hx=>by have:=h.2 x hx;omega) e,p,s⟩
theorem xCz (x y:Row) (hx:x.length≤maxLen):xdA (x.map encV) (y.map encV) []=some (decide (cmpR x y<0)):=by
 have h:Iter (xbY (x.map encV) (y.map encV) []) (0:Int)=some (false,false,()):=xaP (by
  simp only [xbY,xgQ,List.length_nil];rfl)
 unfold xdA xiI
 rw [h,xu4 x y hx];rfl
theorem xCp (a b:List Row) (ha:a.length+b.length≤1048576) (hra:∀ x,x∈a→x.length≤1048576) (hrb:∀ x,x∈b→x.length≤1048576) (sa:Sorted (cmpR) a) (sb:Sorted (cmpR) b) :
  ∀ (n i k:Nat) (D:List Row),(a.length - i)+(b.length - k)=n→i≤a.length→k≤b.length→D.length=i+k →
   ∃ r,Iter (xa3 (List.map encR a) (List.map encR b) []) (D.length,(i:Int),(k:Int),List.map encR D)=some (a.length+b.length,List.map encR (D++r))∧r.Perm (a.drop i++b.drop k)∧Sorted (cmpR) r:=by
 intro n
 induction n with
 | zero =>
  intro i k D hn hi hk hD
  have h1:¬ (i:Int)<(a.length:Int):=by omega
  have h2:¬ (k:Int)<(b.length:Int):=by omega
  refine ⟨[],xaP ?_,?_,by simp [Sorted]⟩
  · simp only [xa3,xcM,xbD,xbB,xbC,xbE,  List.length_map,xci,h1,h2,decide_false,Bool.false_eq_true,if_false,List.append_nil]
    rw [show D.length=a.length+b.length by omega]
  · rw [List.drop_eq_nil_of_le (by omega),List.drop_eq_nil_of_le (by omega)];exact List.Perm.refl _
 | succ n ih =>
  intro i k D hn hi hk hD
  have hlen:(List.map encR D).length=D.length:=by simp
  have m1:(D.length+1)*24≤140737488355328:=by omega
  have m2:D.length+1≤4611686018427387904:=by omega
  have snoc:∀ x:Row,List.map encR D++[AV.list 3 (x.map encV)]=List.map encR (D++[x]):=fun x=>by simp [encR]
  have wi:=xo1 (n:=i) (show i+1≤maxLen by unfold maxLen;omega)
  have wk:=xo1 (n:=k) (show k+1≤maxLen by unfold maxLen;omega)
  by_cases hia:i<a.length
  · have i1:(i:Int)<(a.length:Int):=by omega
    have i2:((i:Int)==(a.length:Int))=false:=by simp;omega
    have hx:a[i]?=some a[i]:=by simp [hia]
    by_cases hkb:k<b.length
    · have k1:(k:Int)<(b.length:Int):=by omega
      have hy:b[k]?=some b[k]:=by simp [hkb]
      have e:=xCz b[k] a[i] (by have:=hrb b[k] (List.getElem_mem hkb);unfold maxLen;omega)
      by_cases hc:cmpR b[k] a[i]<0
      · obtain ⟨r,h1,h2,h3⟩:=ih i (k+1) (D++[b[k]]) (by omega) hi (by omega) (by simp;omega)
        refine ⟨b[k]::r,?_,?_,?_⟩
        · refine xbk (s':=((D++[b[k]]).length,(i:Int),((k+1:Nat):Int),List.map encR (D++[b[k]]))) ?_ (by rw [h1];simp)
          simp only [xa3,xcM,xbD,xbB,xbC,xbE,  List.length_map,xci,i1,i2,k1,hia,hkb,decide_true,Bool.false_eq_true,if_false,if_true,Int.toNat_natCast,gR hx,gR hy,cR0,sR0,e,Option.isSome_some,Option.getD_some,hc,Int.natCast_nonneg,Bool.and_true,beq_self_eq_true,m1,m2,snoc,wk]
          simp
        · rw [xcN hkb]
          exact (h2.cons _).trans List.perm_middle.symm
        · refine List.pairwise_cons.2 ⟨fun z hz=>?_,h3⟩
          rcases List.mem_append.1 (h2.mem_iff.1 hz) with hz|hz
          · rw [xcN hia] at hz
            rcases List.mem_cons.1 hz with rfl|hz
            · omega
            · obtain ⟨j,hj,rfl⟩:=List.mem_iff_getElem.1 hz
              have hja:i+1+j<a.length:=by simp at hj;omega
              have:=xcR sa (i:=i) (j:=i+1+j) (by omega) hja
              rw [List.getElem_drop]
              exact xsU.trans _ _ _ (Int.le_of_lt hc) this
          · obtain ⟨j,hj,rfl⟩:=List.mem_iff_getElem.1 hz
            have hjb:k+1+j<b.length:=by simp at hj;omega
            rw [List.getElem_drop]
            exact xcR sb (i:=k) (j:=k+1+j) (by omega) hjb
      · obtain ⟨r,h1,h2,h3⟩:=ih (i+1) k (D++[a[i]]) (by omega) (by omega) hk (by simp;omega)
        refine ⟨a[i]::r,?_,?_,?_⟩
        · refine xbk (s':=((D++[a[i]]).length,((i+1:Nat):Int),(k:Int),List.map encR (D++[a[i]]))) ?_ (by rw [h1];simp)
          simp only [xa3,xcM,xbD,xbB,xbC,xbE,  List.length_map,xci,i1,i2,k1,hia,hkb,decide_true,Bool.false_eq_true,if_false,if_true,Int.toNat_natCast,gR hx,gR hy,cR0,sR0,e,Option.isSome_some,Option.getD_some,hc,decide_false,Int.natCast_nonneg,Bool.and_true,beq_self_eq_true,m1,m2,snoc,wi]
          simp
        · rw [xcN hia]
          exact h2.cons _
        · refine List.pairwise_cons.2 ⟨fun z hz=>?_,h3⟩
          have hab:cmpR a[i] b[k]≤0:=xsU.ord.le_of_not hc
          rcases List.mem_append.1 (h2.mem_iff.1 hz) with hz|hz
          · obtain ⟨j,hj,rfl⟩:=List.mem_iff_getElem.1 hz
            have hja:i+1+j<a.length:=by simp at hj;omega
            rw [List.getElem_drop]
            exact xcR sa (i:=i) (j:=i+1+j) (by omega) hja
          · rw [xcN hkb] at hz
            rcases List.mem_cons.1 hz with rfl|hz
            · exact hab
            · obtain ⟨j,hj,rfl⟩:=List.mem_iff_getElem.1 hz
              have hjb:k+1+j<b.length:=by simp at hj;omega
              rw [List.getElem_drop]
              exact xsU.trans _ _ _ hab (xcR sb (i:=k) (j:=k+1+j) (by omega) hjb)
    · have k1:¬ (k:Int)<(b.length:Int):=by omega
      obtain ⟨r,h1,h2,h3⟩:=ih (i+1) k (D++[a[i]]) (by omega) (by omega) hk (by simp;omega)
      refine ⟨a[i]::r,?_,?_,?_⟩
      · refine xbk (s':=((D++[a[i]]).length,((i+1:Nat):Int),(k:Int),List.map encR (D++[a[i]]))) ?_ (by rw [h1];simp)
        simp only [xa3,xcM,xbD,xbB,xbC,xbE,  List.length_map,xci,i1,i2,k1,hia,decide_true,decide_false,Bool.false_eq_true,if_false,if_true,Int.toNat_natCast,gR hx,cR0,sR0,Int.natCast_nonneg,Bool.and_true,beq_self_eq_true,m1,m2,snoc,wi]
        simp
      · rw [xcN hia]
        exact h2.cons _
      · refine List.pairwise_cons.2 ⟨fun z hz=>?_,h3⟩
        rw [List.drop_eq_nil_of_le (show b.length≤k by omega),List.append_nil] at h2
        obtain ⟨j,hj,rfl⟩:=List.mem_iff_getElem.1 (h2.mem_iff.1 hz)
        have hja:i+1+j<a.length:=by simp at hj;omega
        rw [List.getElem_drop]
        exact xcR sa (i:=i) (j:=i+1+j) (by omega) hja
  · have i1:¬ (i:Int)<(a.length:Int):=by omega
    have hkb:k<b.length:=by omega
    have k1:(k:Int)<(b.length:Int):=by omega
    have i2:((i:Int)==(a.length:Int))=true:=by simp;omega
    have hy:b[k]?=some b[k]:=by simp [hkb]
    obtain ⟨r,h1,h2,h3⟩:=ih i (k+1) (D++[b[k]]) (by omega) hi (by omega) (by simp;omega)
    refine ⟨b[k]::r,?_,?_,?_⟩
    · refine xbk (s':=((D++[b[k]]).length,(i:Int),((k+1:Nat):Int),List.map encR (D++[b[k]]))) ?_ (by rw [h1];simp)
      simp only [xa3,xcM,xbD,xbB,xbC,xbE,  List.length_map,xci,i1,i2,k1,hkb,decide_true,decide_false,Bool.false_eq_true,if_false,if_true,Int.toNat_natCast,gR hy,cR0,sR0,Int.natCast_nonneg,Bool.and_true,beq_self_eq_true,m1,m2,snoc,wk]
      simp
    · rw [xcN hkb]
      exact (h2.cons _).trans List.perm_middle.symm
    · refine List.pairwise_cons.2 ⟨fun z hz=>?_,h3⟩
      rw [List.drop_eq_nil_of_le (show a.length≤i by omega),List.nil_append] at h2
      obtain ⟨j,hj,rfl⟩:=List.mem_iff_getElem.1 (h2.mem_iff.1 hz)
      have hjb:k+1+j<b.length:=by simp at hj;omega
      rw [List.getElem_drop]
      exact xcR sb (i:=k) (j:=k+1+j) (by omega) hjb
theorem xA3 (a b:List Row) (ha:a.length+b.length≤1048576) (hra:∀ x,x∈a→x.length≤1048576) (hrb:∀ x,x∈b→x.length≤1048576) (sa:Sorted cmpR a) (sb:Sorted cmpR b) :
  ∃ r,xfI (a.map encR) (b.map encR) []=some (r.map encR)∧r.Perm (a++b)∧Sorted cmpR r:=by
 obtain ⟨r,h1,h2,h3⟩:=xCp a b ha hra hrb sa sb _ 0 0 [] rfl (Nat.zero_le _) (Nat.zero_le _) rfl
 simp only [List.drop_zero,List.nil_append] at h1 h2
 have h1':Iter (xa3 (a.map encR) (b.map encR) []) (0,(0:Int),(0:Int),[])=some (r.length,r.map encR):=by
  rw [h2.length_eq,List.length_append];exact h1
 refine ⟨r,?_,h2,h3⟩
 unfold xfI xiT
 simp only [xki,xj2,xkg,xj5,h1',List.drop_zero,List.take_of_length_le,Nat.zero_add,List.length_map,Nat.le_refl,decide_true,Bool.and_true,xaD,Option.isSome_some,Option.getD_some]
theorem xBr:∀ (f:Nat) (l:List Row),l.length≤2 ^ f→Short l→∃ r,xcs (f+1) (List.map encR l) []=some (List.map encR r)∧r.Perm l∧Sorted (cmpR) r:=by
 intro f
 induction f with
 | zero =>
  intro l hl hs
  match l,hl with
  | [],_=>exact ⟨[],by simp [xcs,xcy,xee,xci],List.Perm.refl _,by simp [Sorted]⟩
  | [x],_ =>
   have hx:=hs.2 x (by simp)
   refine ⟨[x],?_,List.Perm.refl _,by simp [Sorted]⟩
   have m1:x.length*32≤140737488355328:=by omega
   have m2:x.length≤4611686018427387904:=by omega
   show xcy (xcs 0) (List.map encR [x]) []=_
   simp [xcy,xee,xg6,xhl,xeB,xhg,  xci,hasSh1,encR,m1,m2,AV.toList,AV.cells]
   exact List.take_of_length_le (by simp)
 | succ f ih =>
  intro l hl hs
  by_cases h2:l.length≤1
  · match l,h2 with
    | [],_=>exact ⟨[],by show xcy (xcs (f+1)) (List.map encR []) []=_;simp [xcy,xee,xci],List.Perm.refl _,by simp [Sorted]⟩
    | [x],_ =>
     have hx:=hs.2 x (by simp)
     refine ⟨[x],?_,List.Perm.refl _,by simp [Sorted]⟩
     have m1:x.length*32≤140737488355328:=by omega
     have m2:x.length≤4611686018427387904:=by omega
     show xcy (xcs (f+1)) (List.map encR [x]) []=_
     simp [xcy,xee,xg6,xhl,xeB,xhg,  xci,hasSh1,encR,m1,m2,AV.toList,AV.cells]
     exact List.take_of_length_le (by simp)
  · have hp:2 ^ (f+1)=2*2 ^ f:=by rw [Nat.pow_succ];omega
    have hs1:=hs.1
    obtain ⟨m,hm⟩:∃ m,m=l.length / 2:=⟨_,rfl⟩
    have st:Short (l.take m):=⟨by simp;omega,fun x hx=>hs.2 x (List.mem_of_mem_take hx)⟩
    have sd:Short (l.drop m):=⟨by simp;omega,fun x hx=>hs.2 x (List.mem_of_mem_drop hx)⟩
    obtain ⟨r1,e1,p1,s1⟩:=ih (l.take m) (by simp;omega) st
    obtain ⟨r2,e2,p2,s2⟩:=ih (l.drop m) (by simp;omega) sd
    have l1:=p1.length_eq
    have l2:=p2.length_eq
    simp only [List.length_take,List.length_drop] at l1 l2
    obtain ⟨r,a1,a3,a4⟩:=xA3 r1 r2 (by omega) (fun x hx=>st.2 x (p1.mem_iff.1 hx)) (fun x hx=>sd.2 x (p2.mem_iff.1 hx)) s1 s2
    refine ⟨r,?_,a3.trans ((p1.append p2).trans (by rw [List.take_append_drop])),a4⟩
    have w:IntKind.i64.wrap ((l.length:Int).tdiv 2)=(m:Int):=by
     rw [Int.tdiv_eq_ediv_of_nonneg (by omega)]
     exact w64 (by omega) (by omega)
    have t1:List.take m (List.map encR l)=List.map encR (l.take m):=by simp
    have t2:List.take (l.length - m) (List.drop m (List.map encR l))=List.map encR (l.drop m):=by
     rw [List.take_of_length_le (by simp)];simp
    have d0:((l.length:Int)==0)=false:=by simp;intro h;subst h;simp at h2
    have d1:((l.length:Int)==1)=false:=by simp;omega
    have d2:(m:Int)≤(l.length:Int):=by omega
    show xcy (xcs (f+1)) (List.map encR l) []=_
    simp only [xcy,xee,xg6,xhl,xeB,xhg,  List.length_map,d0,d1,xaE,w,Int.toNat_natCast,Nat.sub_zero,List.drop_zero,t1,t2,e1,e2,Option.isSome_some,Option.getD_some,xaD,d2,decide_true,Int.natCast_nonneg,Bool.and_true,a1]
theorem xCZ (l:List Row) (h:Short l):∃ r,xhw (l.map encR)=some (r.map encR)∧r.Perm l∧Sorted cmpR r:=by
 obtain ⟨r,e,p,s⟩:=(fun F (hF:20≤F)=>xBr F l (xzN h.1 hF) h) 999 (by decide)
 refine ⟨r,?_,p,s⟩
 unfold xhw xjZ
 rw [e];rfl
end Go.Sim.M
end
noncomputable section
set_option maxRecDepth 100000
namespace Go.Sim.M
open Go.RowKit Go.Sim.Srt
deriving instance DecidableEq for Fc
theorem xzL {α:Type} [DecidableEq α] {step:Int→Option (Int⊕(Bool×Bool×Unit))} (a b:List α) (hl:a.length=b.length)
  (hs:∀ (n:Nat) (h1:n<a.length) (h2:n<b.length),step (n:Int)=if a[n]=b[n] then some (.inl ((n+1:Nat):Int)) else some (.inr (true,false,())))
  (he:step (a.length:Int)=some (.inr (false,false,()))):Iter step (0:Int)=some (if a=b then (false,false,()) else (true,false,())):=by
 have key:∀ d n:Nat,n+d=a.length→Iter step (n:Int)=some (if a.drop n=b.drop n then (false,false,()) else (true,false,())):=by
  intro d
  induction d with
  | zero =>
   intro n h
   have:n=a.length:=by omega
   subst this
   rw [List.drop_eq_nil_of_le (Nat.le_refl _),List.drop_eq_nil_of_le (by omega)]
   exact xaP he
  | succ d ih =>
   intro n h
   have h1:n<a.length:=by omega
   have h2:n<b.length:=by omega
   have:=hs n h1 h2
   have e:a.drop n=b.drop n↔a[n]=b[n]∧a.drop (n+1)=b.drop (n+1):=by rw [xcN h1,xcN h2,List.cons.injEq]
   by_cases hc:a[n]=b[n]
   · rw [if_pos hc] at this
     rw [xeg this,ih (n+1) (by omega)]
     by_cases hr:a.drop (n+1)=b.drop (n+1)
     · rw [if_pos hr,if_pos (e.2 ⟨hc,hr⟩)]
     · rw [if_neg hr,if_neg fun h=>hr (e.1 h).2]
   · rw [if_neg hc] at this
     rw [xaP this,if_neg fun h=>hc (e.1 h).1]
 have:=key a.length 0 (by omega)
 simpa using this
theorem xFd (x y:Per):(x.1==y.1&&x.2==y.2)=decide (x=y):=by
 cases x;cases y;simp [Bool.decide_and,Bool.beq_eq_decide_eq]
theorem cmp0 (x y:Row):(cmpR x y==0)=decide (x=y):=by
 by_cases h:x=y
 · subst h;simp [xBU]
 · have:cmpR x y≠0:=fun e=>h (xni e)
   simp [h,this]
theorem xns (a b:List Row) (hl:a.length=b.length) (ha:a.length≤1048576) (hr:∀ f,f∈a→f.length≤maxLen):Iter (xa7 (a.map encR) (b.map encR)) (0:Int)=some (if a=b then (false,false,()) else (true,false,())):=by
 refine xzL a b hl (fun n h h2=>?_) ?_
 · have h1:(n:Int)<(a.length:Int):=by omega
   have h3:(n:Int)<(b.length:Int):=by omega
   have gf:(a.map encR).getD n .top=encR a[n]:=xa0 _ _ _ h
   have gg:(b.map encR).getD n .top=encR b[n]:=xa0 _ _ _ h2
   have hm:=hr a[n] (List.getElem_mem h)
   simp only [xa7,xes,List.length_map,xaD,xaE,decide_true,decide_false,Bool.and_true,Bool.true_and,Bool.not_true,Bool.not_false,Int.toNat_natCast,Int.natCast_nonneg,Option.isSome_some,Option.getD_some,beq_self_eq_true,Nat.zero_add,Nat.sub_zero,h,h1,h2,h3,gf,gg,cR0,sR0,xFv _ _ hm,cmp0,wrapS (n:=n) (by omega)]
   by_cases he:a[n]=b[n]<;>simp [he,xaD,xaE,xci]
 · simp only [xa7,xes,List.length_map,Int.lt_irrefl,decide_false,xaE]
theorem xzd (a b:List Row) (ha:a.length≤1048576) (hr:∀ f,f∈a→f.length≤maxLen):xdL (a.map encR) (b.map encR)=some (decide (a=b)):=by
 unfold xdL xhC
 by_cases hl:a.length=b.length
 · simp only [List.length_map,hl,bne_self_eq_false,xaE]
   rw [xns a b hl ha hr]
   by_cases h:a=b<;>simp [h,xaD,xaE]
 · have h:a≠b:=fun e=>hl (by rw [e])
   have h2:((a.length:Int) != (b.length:Int))=true:=by simp;omega
   simp [h,h2,xaD]
theorem xq8 (a b:List Per) (hl:a.length=b.length) (ha:a.length≤1048576):Iter (xb0 (a.map encP) (b.map encP)) (0:Int)=some (if a=b then (false,false,()) else (true,false,())):=by
 refine xzL a b hl (fun n h h2=>?_) ?_
 · have h1:(n:Int)<(a.length:Int):=by omega
   have h3:(n:Int)<(b.length:Int):=by omega
   have gf:(a.map encP).getD n .top=encP a[n]:=xa0 _ _ _ h
   have gg:(b.map encP).getD n .top=encP b[n]:=xa0 _ _ _ h2
   simp only [xb0,xgh,List.length_map,xaD,xaE,decide_true,decide_false,Bool.and_true,Bool.true_and,Bool.not_true,Bool.not_false,Int.toNat_natCast,Int.natCast_nonneg,Option.isSome_some,Option.getD_some,beq_self_eq_true,Nat.zero_add,Nat.sub_zero,h,h1,h2,h3,gf,gg,cP0,cP1,lP,sP,sP0,sP1,xFd,wrapS (n:=n) (by omega)]
   by_cases he:a[n]=b[n]<;>simp [he,xaD,xaE,xci]
 · simp only [xb0,xgh,List.length_map,Int.lt_irrefl,decide_false,xaE]
theorem xwP (a b:List Per) (ha:a.length≤1048576):xgi (a.map encP) (b.map encP)=some (decide (a=b)):=by
 unfold xgi xkr
 by_cases hl:a.length=b.length
 · simp only [List.length_map,hl,bne_self_eq_false,xaE]
   rw [xq8 a b hl ha]
   by_cases h:a=b<;>simp [h,xaD,xaE]
 · have h:a≠b:=fun e=>hl (by rw [e])
   have h2:((a.length:Int) != (b.length:Int))=true:=by simp;omega
   simp [h,h2,xaD]
def atL (l:List Fc) (t:Int):List Row:=l.flatMap fun f=>if hasP f.p t=true then [f.r] else []
theorem xEN (l:List Fc) (t:Int):(atL l t).length≤l.length:=by
 have:=xkT (g:=fun f:Fc=>if hasP f.p t=true then [f.r] else []) (c:=1) l fun f _=>by split<;>simp
 unfold atL;omega
theorem xEV {l:List Fc} {t:Int} {r:Row} (h:r∈atL l t):∃ f,f∈l∧f.r=r∧hasP f.p t=true:=by
 obtain ⟨f,hf,h⟩:=List.mem_flatMap.1 h
 split at h
 · rename_i hp
   simp only [List.mem_singleton] at h
   exact ⟨f,hf,h.symm,hp⟩
 · simp at h
def Few (l:List Fc):Prop:=l.length≤1048576∧∀ f,f∈l→f.r.length≤1048576
theorem Few.at {l:List Fc} (h:Few l) (t:Int):Short (atL l t):=⟨Nat.le_trans (xEN l t) h.1,fun x hx=>by obtain ⟨f,hf,rfl,_⟩:=xEV hx;exact h.2 f hf⟩
theorem xFP (l:List Fc) (t:Int) (h:Few l):∃ r,xeL (l.map encF) t=some (r.map encR)∧r.Perm (atL l t)∧Sorted cmpR r:=by
 obtain ⟨r,e,p,s⟩:=xEW (atL l t) (h.at t)
 refine ⟨r,?_,p,s⟩
 have:=xpK t l h.1
 unfold xeL xjr xkP xkx xk1 xkZ
 rw [List.length_map,this]
 simp only [List.drop_zero,List.take_of_length_le,Nat.zero_add,List.length_map,Nat.le_refl,decide_true,Bool.and_true,xaD,Option.isSome_some,Option.getD_some]
 rw [show (l.flatMap fun f=>if hasP f.p t=true then [f.r] else [])=atL l t from rfl,e]
 simp only [List.drop_zero,List.take_of_length_le,Nat.zero_add,List.length_map,Nat.le_refl,decide_true,Bool.and_true,xaD,Option.isSome_some,Option.getD_some]
theorem xFq (l:List Fc) (t:Int) (h:Few l):∃ r,xhA (l.map encF) t=some (r.map encR)∧r.Perm (atL l t)∧Sorted cmpR r:=by
 obtain ⟨r,e,p,s⟩:=xCZ (atL l t) (h.at t)
 refine ⟨r,?_,p,s⟩
 have:=xsG t l h.1
 unfold xhA xlX
 simp only [xnu,xnQ,xnL,xnO,this,List.drop_zero,List.take_of_length_le,Nat.zero_add,List.length_map,Nat.le_refl,decide_true,Bool.and_true,xaD,Option.isSome_some,Option.getD_some]
 rw [show (l.flatMap fun f=>if hasP f.p t=true then [f.r] else [])=atL l t from rfl,e]
 simp only [List.drop_zero,List.take_of_length_le,Nat.zero_add,List.length_map,Nat.le_refl,decide_true,Bool.and_true,xaD,Option.isSome_some,Option.getD_some]
end Go.Sim.M
end
noncomputable section
set_option maxRecDepth 100000
namespace Go.Sim.M
open Go.RowKit Go.Sim.Srt
theorem xyB {α:Type} {step:Int→Option (Int⊕(Bool×Bool×Unit))} (l:List α) (p:α→Bool)
  (hs:∀ (k:Nat) (h:k<l.length),step (k:Int)=if p l[k]=true then some (.inl ((k+1:Nat):Int)) else some (.inr (true,false,())))
  (he:step (l.length:Int)=some (.inr (false,false,()))):∀ d k:Nat,k+d=l.length→Iter step (k:Int)=some (if (l.drop k).all p=true then (false,false,()) else (true,false,()))
 | 0,k,h=>by
  have:k=l.length:=by omega
  subst this
  rw [List.drop_eq_nil_of_le (Nat.le_refl _),List.all_nil,if_pos rfl]
  exact xaP he
 | d+1,k,h=>by
  have hk:k<l.length:=by omega
  have:=hs k hk
  have e:(l.drop k).all p=(p l[k]&&(l.drop (k+1)).all p):=by rw [xcN hk];rfl
  rw [e]
  cases hc:p l[k] with
  | true =>
   rw [if_pos hc] at this
   rw [xeg this,xyB l p hs he d (k+1) (by omega),Bool.true_and]
  | false =>
   rw [if_neg (by rw [hc];simp)] at this
   rw [xaP this];simp
def few (l:List Fc):Bool:=decide (l.length≤24)&&l.all fun f=>decide (f.r.length≤60)
theorem xFA (l:List Fc):xhr (l.map encF)=some (few l):=by
 have key:xhs (l.map encF) 24=some (few l):=by
  unfold xhs xk4
  by_cases h:(l.length:Int)>24
  · simp only [List.length_map,h,decide_true,xaD]
    have:¬ l.length≤24:=by omega
    simp [few,this]
  · have e:=xyB (step:=xbN (l.map encF)) l (fun f=>decide (f.r.length≤60)) (fun k hk=>by
     have hl:l.length≤24:=by omega
     have i1:(k:Int)<(l.length:Int):=by omega
     have gf:(l.map encF).getD k .top=encF l[k]:=xa0 _ _ _ hk
     simp only [xbN,xhd,List.length_map,xaD,xaE,decide_true,decide_false,Bool.and_true,Bool.true_and,Bool.not_true,Bool.not_false,Int.toNat_natCast,Int.natCast_nonneg,Option.isSome_some,Option.getD_some,beq_self_eq_true,Nat.zero_add,Nat.sub_zero,hk,i1,gf,cF0,cF1,cF2,sF0,sF1,sF2,lF,sF12,sF02,wrapS (n:=k) (by omega)]
     by_cases h60:l[k].r.length≤60
     · have:¬ (l[k].r.length:Int)>60:=by omega
       simp [h60,this,xaE]
     · have:(l[k].r.length:Int)>60:=by omega
       simp [h60,this,xaD]) (by
     simp only [xbN,xhd,List.length_map,Int.lt_irrefl,decide_false,xaE]) l.length 0 (by omega)
    have e:Iter (xbN (l.map encF)) (0:Int)=_:=e
    rw [List.drop_zero] at e
    simp only [List.length_map,h,decide_false,xaE,e]
    have hl:l.length≤24:=by omega
    cases ha:l.all (fun f=>decide (f.r.length≤60))<;>simp [few,hl,ha,xaD,xaE]
 unfold xhr xk8
 simp only [key,xww]
theorem xyu {l:List Fc} (h:few l=true):l.length≤24∧∀ f,f∈l→f.r.length≤60:=by
 simp only [few,Bool.and_eq_true,decide_eq_true_eq,List.all_eq_true] at h
 exact h
theorem xET {l:List Fc} (h:few l=true):Few l:=by
 obtain ⟨a,b⟩:=xyu h
 exact ⟨by omega,fun f hf=>by have:=b f hf;omega⟩
theorem xvN {ps:List Per} (h:ps.length≤262144):Tame (ps.map fun p=>(p,(1:Int))):=⟨by simpa using h,fun c hc=>by
 obtain ⟨p,_,rfl⟩:=List.mem_map.1 hc
 dsimp only;omega⟩
theorem xwj (ps:List Per) (h:ps.length≤262144):∃ S,xc3 (ps.map encP)=some (S.map encP)∧StepI (fun t=>((ps.countP (hasP · t):Nat):Int)) 1099511627776 S∧S.length≤2*ps.length+1:=by
 obtain ⟨S,h1,h2,h3⟩:=xoT _ (xvN h)
 refine ⟨S,by rw [xAD ps (by omega),h1],?_,by simpa using h3⟩
 rwa [show sumC (ps.map fun p=>(p,(1:Int)))=fun t=>((ps.countP (hasP · t):Nat):Int) from funext fun t=>xvh ps t] at h2
theorem xwL (l:List Fc) (row:Row) (t:Int) (g:Fc→List Per) (hg:∀ f,(g f).countP (hasP · t)=if f.r=row∧hasP f.p t=true then 1 else 0):(l.flatMap g).countP (hasP · t)=cnt l row t:=by
 induction l with
 | nil=>rfl
 | cons f l ih =>
  rw [List.flatMap_cons,List.countP_append,ih,hg]
  have e2:cnt (f::l) row t=cnt l row t+if (decide (f.r=row)&&hasP f.p t)=true then 1 else 0:=List.countP_cons
  rw [e2]
  by_cases h:f.r=row∧hasP f.p t=true
  · rw [if_pos h,if_pos (by simp [h.1,h.2])];omega
  · rw [if_neg h,if_neg (by simpa using h)];omega
theorem xA0 (l:List Fc) (row:Row) (h:Few l) (hl:l.length≤262144):∃ S,xcQ (l.map encF) (row.map encV)=some (S.map encP)∧StepI (fun t=>((cnt l row t:Nat):Int)) 1099511627776 S∧S.length≤2*l.length+1:=by
 have e:=xmU row l h.1 (fun f hf=>by have:=h.2 f hf;unfold maxLen;omega)
 generalize hps:(l.flatMap fun f=>if pv f.p=true then if cmpR f.r row==0 then [f.p] else [] else [])=ps at e
 have hlen:ps.length≤l.length:=by
  rw [←hps]
  have:=xkT (c:=1) (g:=fun f:Fc=>if pv f.p=true then if cmpR f.r row==0 then [f.p] else [] else []) l fun f _=>by split<;>(try split)<;>simp
  omega
 obtain ⟨S,h1,h2,h3⟩:=xwj ps (by omega)
 refine ⟨S,?_,?_,by omega⟩
 · unfold xcQ xgR
   simp only [xib,xim,xig,xiq,List.length_map,e,List.drop_zero,List.take_of_length_le,Nat.zero_add,List.length_map,Nat.le_refl,decide_true,Bool.and_true,xaD,Option.isSome_some,Option.getD_some,h1]
 · rwa [show (fun t=>((ps.countP (hasP · t):Nat):Int))=fun t=>((cnt l row t:Nat):Int) from funext fun t=>by
    rw [←hps,xwL l row t _ fun f=>?_]
    rw [cmp0]
    by_cases hv:pv f.p=true
    · by_cases hr:f.r=row<;>cases hh:hasP f.p t<;>simp [hv,hr,hh]
    · have:hasP f.p t=false:=by simp [hasP,hv]
      simp [hv,this]] at h2
theorem xAz (l:List Fc) (row:Row) (hr:∀ f,f∈l→f.r.length≤maxLen) (hl:l.length≤262144):∃ S,xdS (l.map encF) (row.map encV)=some (S.map encP)∧StepI (fun t=>((cnt l row t:Nat):Int)) 1099511627776 S∧S.length≤2*l.length+1:=by
 have e:=xo8 row l (by omega) hr
 have hps:(l.flatMap fun f=>if cmpR f.r row==0 then [(f.p,(1:Int))] else [])=(l.flatMap fun f=>if cmpR f.r row==0 then [f.p] else []).map fun p=>(p,(1:Int)):=by
  rw [List.map_flatMap];congr 1;funext f;split<;>simp
 rw [hps] at e
 generalize hq:(l.flatMap fun f=>if cmpR f.r row==0 then [f.p] else [])=ps at e
 have hlen:ps.length≤l.length:=by
  rw [←hq]
  have:=xkT (c:=1) (g:=fun f:Fc=>if cmpR f.r row==0 then [f.p] else []) l fun f _=>by split<;>simp
  omega
 obtain ⟨S,h1,h2,h3⟩:=xFf _ (xvN (ps:=ps) (by omega))
 refine ⟨S,?_,?_,by rw [List.length_map] at h3;omega⟩
 · unfold xdS xiU
   simp only [xko,xj0,xj1,xks,e,List.drop_zero,List.take_of_length_le,Nat.zero_add,List.length_map,Nat.le_refl,decide_true,Bool.and_true,xaD,Option.isSome_some,Option.getD_some]
   simp only [h1,List.drop_zero,List.take_of_length_le,Nat.zero_add,List.length_map,Nat.le_refl,decide_true,Bool.and_true,xaD,Option.isSome_some,Option.getD_some]
 · rwa [show sumC (ps.map fun p=>(p,(1:Int)))=fun t=>((cnt l row t:Nat):Int) from funext fun t=>by
    rw [xvh,←hq,xwL l row t _ fun f=>?_]
    rw [cmp0]
    by_cases hr:f.r=row<;>cases hh:hasP f.p t<;>simp [hr,hh]] at h2
theorem xFi (l:List Fc) (t:Int) (row:Row):xdD (l.map encF) t (row.map encV)=some true:=by
 unfold xdD xgC
 simp only [xFA,Option.isSome_some,Option.getD_some,xaD,List.length_map]
 cases hf:few l with
 | false=>rfl
 | true =>
  simp only [Bool.not_true,xaE]
  by_cases h60:(row.length:Int)>60
  · simp only [h60,decide_true,xaD]
  · have h:=xET hf
    obtain ⟨f1,f2⟩:=xyu hf
    obtain ⟨r,e1,p1,s1⟩:=xFP l t h
    obtain ⟨r',e2,p2,s2⟩:=xFq l t h
    obtain rfl:r=r':=xlY xsU (fun _ _=>xni) (p1.trans p2.symm) s1 s2
    obtain ⟨S,e3,t3,l3⟩:=xA0 l row h (by omega)
    obtain ⟨S',e4,t4,l4⟩:=xAz l row (fun f hf=>by have:=f2 f hf;unfold maxLen;omega) (by omega)
    obtain rfl:S=S':=t3.unique t4
    have hsh:=(h.at t).perm p1
    have e5:=xzd r r hsh.1 (fun x hx=>by have:=hsh.2 x hx;unfold maxLen;omega)
    have e6:=xwP S S (by omega)
    rw [decide_eq_true rfl] at e5 e6
    simp only [h60,decide_false,xaE,e1,e2,e3,e4,e5,e6,Option.isSome_some,Option.getD_some,xaD]
end Go.Sim.M
end
noncomputable section
namespace Go.Sim
theorem M.card_at (l:List M.Fc) (t:Int) (row:M.Row) (w0:l.length≤maxLen∧∀ y,y∈l→y.wf) (w1:(Lit.int .i64 t).wf=true) (w2:M.Row.wf row):M.xdD (l.map M.encF) t (row.map M.encV)=some true:=M.xFi l t row
end Go.Sim
end
noncomputable section
set_option maxRecDepth 10000
namespace Go.Proofs.YtefloaolddjnhaaGreatDoor.coalesceAt
open Go.ChangeShapes Go.WideShapes Go.ChangeAt Go.RowKit Go.Sim
theorem contract (H:Type) (enc:TypeId×Value→H) (W:World) (base:Nat) (args:Array Value) (ds gs:List (DataW H)) (before:List MemPlace)
  (hval:∀ (j:Nat) t v,Tryz.f10.params[j]?=some t→args[j]?=some v→Value.okWide Tryz.prog W .any base t v)
  (hW:DataW.Whole enc Tryz.prog Tryz.f10.params.toList Rows.coalesceAtSpec.vars false W args.toList ds gs before) (hL:laidMetH Tryz.prog Rows.coalesceAtRow.laid W) (hsh:W.ShapedOpen Tryz.prog) :
  Calls Tryz.prog 10 args W fun e W'=>∃ v,e=.returned v∧Rows.coalesceAtSpec.post enc Tryz.prog Tryz.f10 false true false false W args v W':=by
 have hW':=hW
 obtain ⟨p,q,hA0,hV,rfl,hfz,hnd⟩:=hW
 have hA:DataW.TrodAll enc Tryz.prog W 0 (fun _=>true) true Tryz.f10.params.toList args.toList ds p:=hA0
 have hAk:=hA
 rw [Tryz.params10] at hA hval
 obtain ⟨v0,vs0,d0,ds0,p0,q0,hargs,rfl,rfl,h0,r0⟩:=trodAll_cons hA
 obtain ⟨v1,vs1,d1,ds1,p1,q1,rfl,rfl,rfl,h1,r1⟩:=trodAll_cons r0
 obtain ⟨v2,vs2,d2,ds2,p2,q2,rfl,rfl,rfl,h2,r2⟩:=trodAll_cons r1
 obtain ⟨rfl,rfl,rfl⟩:=trodAll_nil r2
 obtain rfl:args=#[v0,v1,v2]:=by cases args;simp_all
 obtain ⟨rfl,rfl⟩:=trodVars_none hV
 obtain ⟨a0,rr0,b0,w0⟩:=xAi (hval 0 22 v0 rfl rfl) h0
 obtain ⟨a1,rr1,b1,w1⟩:=xDq (hval 1 3 v1 rfl rfl) h1
 obtain ⟨a2,rr2,b2,w2⟩:=xDt (hval 2 40 v2 rfl rfl) h2
 clear hA0
 have hI:ITryz W:=xFE rfl (by kernel_rfl) hL hsh
 have hpl:=M.card_at a0 a1 a2 w0 w1 w2
 have hg:Sim.Good Tryz.prog ITryz 10 [.list 3 (a0.map M.encF),.int .i64 a1,.list 3 (a2.map M.encV)] (.bool true):=M.xqX _ _ (by
  show some (_,AV.bool _)=_
  rw [hpl];rfl)
 have hrc:RC W (fun _=>False) noBox [v0,v1,v2] [.list 3 (a0.map M.encF),.int .i64 a1,.list 3 (a2.map M.encV)]:=by
  refine ⟨rfl,fun i hi=>?_⟩
  match i,hi with
  | 0,_=>exact rr0
  | 1,_=>exact rr1
  | 2,_=>exact rr2
 refine (hg.2 W (fun _=>False) _ hI (fun _ h=>h.elim) hrc).mono fun e W' ⟨v,he,hb,hr⟩=>?_
 subst he
 obtain rfl:=hr.bool_inv
 exact ⟨_,rfl,xBx rfl hW' ⟨rfl,rfl,rfl⟩ rfl Tryz.underlying4 (by simpa using xpe laidTryz hb (by kernel_rfl) hAk) hb⟩
noncomputable def wit:Array Value:=#[.slice none 0 0,.int .i64 0,.slice none 0 0]
theorem laid_met (os:Os):laidMet Tryz.prog Rows.coalesceAtRow.laid ((laidWorld Tryz.prog Rows.coalesceAtRow.laid os).forCall (fun _ _=>0) ⟨#[],wit,[]⟩).memory :=
 laidMet_of_run3 8 (by kernel_rfl) (by kernel_rfl) (by kernel_rfl)
theorem reads (os:Os) {H:Type} (enc:TypeId×Value→H):∃ places,DataW.whole enc Tryz.prog ((laidWorld Tryz.prog Rows.coalesceAtRow.laid os).forCall (fun _ _=>0) ⟨#[],wit,[]⟩).memory Tryz.f10.params.toList Rows.coalesceAtSpec.vars false wit.toList 8=some ([.nil,.lit (.int .i64 0),.nil],[],places) :=
 ⟨[],by kernel_rfl⟩
set_option maxRecDepth 100000 in
theorem lifted (os:Os) (started:os.Started) (H:Type) (enc:TypeId×Value→H) (F:Stop.Interp) :
  ReturnsInHanded {} Tryz.checked os 10 .any ((OpenSpec.ofChange Rows.coalesceAtSpec).preRow enc Tryz.prog Tryz.f10 Rows.coalesceAtRow.domain false Rows.coalesceAtRow.laid) (((OpenSpec.ofChange Rows.coalesceAtSpec).at F).post enc Tryz.prog Tryz.f10 false true false false):=by
 obtain ⟨places,hx⟩:=reads os enc
 refine returnsInHanded_of_row (C:=Tryz.checked) (s:=OpenSpec.ofChange Rows.coalesceAtSpec) ownTryz started (by kernel_rfl) Tryz.func10
  (witness_row_at (enc:=enc) (C:=Tryz.checked) false (laidWorld Tryz.prog Rows.coalesceAtRow.laid os) wit rfl (by kernel_rfl) (by kernel_rfl) (by kernel_rfl)
   (OpenSpec.preRow_of_cond 8 hx (by kernel_rfl) (fun k hk=>by cases hk) (by kernel_rfl) (laid_met os))) ?_
 intro W base args ds gs before hval hW _ _ _ hL hsh _
 exact contract H enc W base args ds gs before hval hW hL hsh
theorem said:Rows.CoalesceAtSaid :=
 OpenClaim.holds_of_cond 10 Tryz.f10 rfl rfl rfl rfl rfl rfl rfl ⟨rfl,rfl,rfl,rfl,rfl⟩ rfl rfl rfl rfl rfl (by kernel_rfl) Tryz.func10 (by kernel_rfl)
  (of_decide_eq_true (by kernel_rfl)) (by unfold Func.isWrapper;first|(rw [if_pos (by decide +kernel)];kernel_rfl)|(rw [if_neg (by decide +kernel)];exact ⟨rfl,rfl⟩))
  (fun os started H enc _ F=>by rw [OpenClaim.pre_eq_preRow];exact lifted os started H enc F)
theorem plain (f:FuncId) (fn:Func) (hf:Tryz.pinned.checked.prog.funcNamed "bitemporal/bitemporallaw22.CoalesceAt" = some f) (hfn:Tryz.pinned.checked.prog.funcs[f]?=some fn) :
  false=Tryz.pinned.checked.prog.looks []∧∀ (j:Nat) t,fn.params[j]?=some t→Tryz.pinned.checked.prog.wantsStandIn t=false:=by
 obtain rfl:f=10:=Option.some.inj ((show Tryz.prog.funcNamed "bitemporal/bitemporallaw22.CoalesceAt" = some 10 by kernel_rfl).symm.trans hf) |>.symm
 obtain rfl:fn=Tryz.f10:=(Option.some.inj (Tryz.func10.symm.trans hfn)).symm
 refine ⟨by kernel_rfl,fun j t ht=>?_⟩
 rw [Tryz.params10] at ht
 have hm:=Array.mem_of_getElem? ht
 have:([22,3,40]:List Nat).all (fun t=>!(Tryz.prog.wantsStandIn t))=true:=by kernel_rfl
 have:=List.all_eq_true.1 this t (by simpa using hm)
 show Tryz.prog.wantsStandIn t=false
 simpa using this
theorem card:Rows.CoalesceAtCardSaid :=
 Claim7.holds_tied_plain_at .later [] _ _ _ _ said (fun _ h=>by cases h) (by kernel_rfl) (fun _ h=>by cases h) coalesceAt_row_tie rfl ⟨rfl,rfl⟩ (by kernel_rfl) rfl plain (by kernel_rfl)
end Go.Proofs.YtefloaolddjnhaaGreatDoor.coalesceAt
end
