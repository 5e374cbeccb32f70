/- Part 16 of the proof of the law. -/
import Derived.Test.YtoemghmemdnelaaGreatDoorGS15
import Derived.Test.YtoemghmemdnelaaGreatDoorCards
import Derived.Test.YtoemghmemdnelaaGreatDoorTie
import Derived.ChangeMaps5
import Derived.Deep.DeepHandedRow
import Derived.Stop.LaidErr
import Derived.Deep.DeepLaidRun
set_option linter.unusedVariables false
set_option linter.unusedSimpArgs false
noncomputable section
set_option maxRecDepth 10000
namespace Go.Sim
open Go.RowKit Go.Proofs Go.ChangeShapes Go.WideShapes Go.ChangeAt
theorem xob {P:Program} {w:World} (h:w.ShapedOpen P) (hg:P.globals.size<P.low):P.low≤w.heap.size:=by
 obtain ⟨o,o₀,h1,_,_⟩:=h.2 (P.low - 1) (by omega) (by unfold Program.low at hg ⊢;omega)
 rcases Nat.lt_or_ge (P.low - 1) w.heap.size with h'|h'
 · omega
 · rw [Array.getElem?_eq_none h'] at h1;simp at h1
def cellsOfData:DataW Unit→List Value
 | .lit (.int k n)=>[.int k n]
 | .agg l=>l.flatMap fun d=>match d with
  | .lit (.int k n)=>[.int k n]
  | .agg l'=>l'.flatMap fun d'=>match d' with
   | .lit (.int k n)=>[.int k n]
   | _=>[]
  | _=>[]
 | _=>[]
noncomputable def laidHeap (P:Program):List (String×DataW Unit)→Array Obj→Array Obj
 | [],h=>h
 | x::r,h=>laidHeap P r (match P.globalNamed x.1 with
  | some g=>h.modify g fun o=>match o with
   | .cells _ t frozen=>.cells (cellsOfData x.2).toArray t frozen
   | o=>o
  | none=>h)
noncomputable def laidWorld (P:Program) (laid:List (String×DataW Unit)) (os:Os):World :=
 { World.holding P os ⟨#[],#[],[]⟩ with heap:=laidHeap P laid (World.holding P os ⟨#[],#[],[]⟩).heap }
theorem xrO {H:Type} {enc:TypeId×Value→H} {P:Program} {f:Func} {s:ChangeSpec} {W W':World} {args:Array Value} {ds:List (DataW H)} {before:List MemPlace} {tb:TypeId} (hs:s.vars=[])
  (hW:DataW.Whole enc P f.params.toList s.vars false W args.toList ds [] before) (hfn:(s.fn H ds).results=[.lit (.bool true)]∧(s.fn H ds).args=ds∧(s.fn H ds).vars=[]) (hrt:f.resultTypes=#[tb]) (htb:P.underlying tb=some .bool)
  (hargs:DataW.TrodAll enc P W' 0 (fun b=>decide (b<W.heap.size)) true f.params.toList args.toList ds before) (hb:Below W.heap.size W W'):s.post enc P f false true false false W args (.bool true) W':=by
 refine ⟨ds,[],before,[],before,[],hW,?_,?_,?_,hb.frame _,fun h=>by simp at h⟩
 · simp only [List.append_nil,hfn.1,hrt]
   exact trodAll_cons_mk (shut_bool htb _) trodAll_mk0
 · simpa [hfn.2.1] using hargs
 · simp only [List.append_nil,hfn.2.2,hs];rfl
theorem xiV {H:Type} {enc:TypeId×Value→H} {P:Program} {W W':World} (hl:laidOutB P=true) (hb:Below W.heap.size W W'):∀ {ts:List TypeId} {vs:List Value} {ds:List (DataW H)} {ps:List MemPlace},(ts.all fun t=>P.readableRec t&&decide (t<P.types.size))=true →
  DataW.TrodAll enc P W 0 (fun _=>true) true ts vs ds ps→DataW.TrodAll enc P W' 0 (fun b=>decide (b<W.heap.size)) true ts vs ds ps
 | [],vs,ds,ps,_,h=>by
  obtain ⟨rfl,rfl,rfl⟩:=trodAll_nil h
  exact trodAll_mk0
 | t::ts,vs,ds,ps,ht,h=>by
  have hlt:=h.lt
  obtain ⟨v,vs',d,ds',p,q,rfl,rfl,rfl,hd,hr⟩:=trodAll_cons h
  simp only [List.all_cons,Bool.and_eq_true,decide_eq_true_eq] at ht
  exact trodAll_cons_mk (Below.trod hl ht.1.1 ht.1.2 hd hb fun x hx=>hlt x (by simp [hx])) (xiV hl hb ht.2 hr)
section
variable {H : Type} {enc : TypeId × Value → H} {P : Program} {w : World} {base b n : Nat} {sp : Nat → Bool} {held : Bool} {v : Value} {d : DataW H} {ps : List MemPlace} {t : TypeId}
theorem xrM {T:Ty} (hf:flat P n t=some [T]) (hv:v.cells=#[v]) (hd:DataW.Trod enc P w b sp held t v d ps):∃ a,Rel w (fun _=>False) noBox v a∧OfTy T a∧∀ μ:DataW H→Nat,Meas μ→a.wt≤μ d:=by
 obtain ⟨fuel,hf'⟩:=hd
 rw [hv] at hf'
 obtain ⟨ra,ha,hw⟩:=xhl n t [T] hf fuel _ _ hf'
 cases ha with
 | cons h ht r=>cases r with
  | nil=>exact ⟨_,h,ht,fun μ hμ=>by simpa [AV.wts] using hw μ hμ⟩
theorem xqg {e:TypeId} {es:List Ty} (ht:P.underlying t=some (.slice e)) (hf:flat P n t=some [.slice es]) (hval:Value.okWide P w .any base t v) (hd:DataW.Trod enc P w b sp held t v d ps):∃ a,Rel w (fun _=>False) noBox v a∧OfTy (.slice es) a∧∀ μ:DataW H→Nat,Meas μ→a.wt≤μ d:=by
 obtain ⟨x,len,cap,rfl⟩:=okWide_slice ht hval
 exact xrM hf rfl hd
theorem xke {α:Type} {e:α→AV} {wf:α→Prop} {es:List Ty} (hv:∀ x:AV,x.cells.length=es.length→x=elemOf x.cells→(∀ j,j<es.length→OfTy (es.getD j .bool) (x.cells.getD j .top))→∃ a,x=e a∧wf a) {x:AV} (h:OfTy (.slice es) x) :
  ∃ l:List α,x=.list es.length (l.map e)∧l.length≤maxLen∧∀ a,a∈l→wf a:=by
 cases h with
 | slice _ xs hn hl hx =>
  have:∀ xs:List AV,(∀ x,x∈xs→∃ a,x=e a∧wf a)→∃ l:List α,xs=l.map e∧∀ a,a∈l→wf a:=by
   intro xs
   induction xs with
   | nil=>exact fun _=>⟨[],rfl,fun a h=>by simp at h⟩
   | cons x xs ih =>
    intro h
    obtain ⟨a,rfl,ha⟩:=h x (by simp)
    obtain ⟨l,rfl,hl⟩:=ih fun y hy=>h y (by simp [hy])
    exact ⟨a::l,rfl,fun b hb=>(List.mem_cons.1 hb).elim (fun he=>he▸ha) (fun hb=>hl b hb)⟩
  obtain ⟨l,rfl,hw⟩:=this xs fun x hx'=>hv x (hl x hx').1 (hl x hx').2 (fun j hj=>hx x j hx' hj)
  exact ⟨l,rfl,by simpa using hn,hw⟩
end
end Go.Sim
namespace Go.Sim
open Go.RowKit Go.Proofs Go.ChangeShapes Go.WideShapes Go.ChangeAt Go.Proofs.YtoemghmemdnelaaGreatDoor
theorem laidTryz:laidOutB Tryz.prog=true:=by kernel_rfl
theorem ownTryz:ownKnob Tryz.prog.godebug=none:=by kernel_rfl
theorem lowTryz:Tryz.prog.globals.size<Tryz.prog.low:=of_decide_eq_true (by kernel_rfl)
noncomputable def pow10Global:Nat:=(Tryz.prog.globalNamed "internal/strconv.uint64pow10").getD 0
theorem xrP:Rows.laid_internal_strconv_uint64pow10=(Lib.tabData .u64 Lib.pow10Tab:DataW Unit):=by kernel_rfl
theorem xts {W:World} {r:List (String×DataW Unit)} {a b:String×DataW Unit} (hl:r=[a,b,("internal/strconv.uint64pow10",Rows.laid_internal_strconv_uint64pow10)]) (hp:(r.all fun x=>x.2.handleName?.isNone)=true) (hL:laidMetH Tryz.prog r W) (hsh:W.ShapedOpen Tryz.prog):ITryz W:=by
 rw [MakeChecks.laidMetH_plain _ _ _ hp] at hL
 subst hl
 refine ⟨hsh,xob hsh lowTryz,?_⟩
 have h:=hL.tail.tail
 rw [xrP] at h
 exact Lib.tabIs_of_head (g:=pow10Global) (t:=(Tryz.prog.globals[pow10Global]?).map (·.type) |>.getD 0) (e:=194) (n:=20) (by kernel_rfl) (by kernel_rfl) (by kernel_rfl) (by kernel_rfl) (by kernel_rfl) (by kernel_rfl) h
def tyV:List Ty:=[.int .i64,.int .i64,.str]
def tyF:List Ty:=[.slice tyV,.int .i64,.int .i64]
theorem xqE:flat Tryz.prog 9 23=some [.slice tyF]:=by kernel_rfl
def I64 (n:Int):Prop:=(Lit.int .i64 n).wf=true
def M.Fc.wf (x:M.Fc):Prop:=M.Row.wf x.r∧I64 x.p.1∧I64 x.p.2
theorem xsE (x:AV) (hl:x.cells.length=tyV.length) (he:x=elemOf x.cells) (hx:∀ j,j<tyV.length→OfTy (tyV.getD j .bool) (x.cells.getD j .top)):∃ a,x=M.encV a∧M.Val.wf a:=by
 generalize x.cells=cs at *
 match cs,hl with
 | [c0,c1,c2],_ =>
  have h0:=hx 0 (by decide)
  have h1:=hx 1 (by decide)
  have h2:=hx 2 (by decide)
  change OfTy (.int .i64) c0 at h0
  change OfTy (.int .i64) c1 at h1
  change OfTy .str c2 at h2
  cases h0 with
  | int _ k hk=>cases h1 with
   | int _ i hi=>cases h2 with
    | str t ht=>exact ⟨⟨k,i,t⟩,he,hk,hi,ht⟩
theorem xsD {x:AV} (h:OfTy (.slice tyV) x):∃ l:M.Row,x=M.encR l∧M.Row.wf l:=by
 obtain ⟨l,rfl,h1,h2⟩:=xke xsE h
 exact ⟨l,rfl,h1,h2⟩
theorem xsB (x:AV) (hl:x.cells.length=tyF.length) (he:x=elemOf x.cells) (hx:∀ j,j<tyF.length→OfTy (tyF.getD j .bool) (x.cells.getD j .top)):∃ a,x=M.encF a∧M.Fc.wf a:=by
 generalize x.cells=cs at *
 match cs,hl with
 | [c0,c1,c2],_ =>
  have h0:=hx 0 (by decide)
  have h1:=hx 1 (by decide)
  have h2:=hx 2 (by decide)
  change OfTy (.slice tyV) c0 at h0
  change OfTy (.int .i64) c1 at h1
  change OfTy (.int .i64) c2 at h2
  obtain ⟨l,rfl,hw⟩:=xsD h0
  cases h1 with
  | int _ k hk=>cases h2 with
   | int _ i hi=>exact ⟨⟨l,(k,i)⟩,he,hw,hk,hi⟩
def tyP:List Ty:=[.int .i64,.int .i64]
theorem xqF:flat Tryz.prog 9 33=some [.slice tyP]:=by kernel_rfl
theorem xse:flat Tryz.prog 9 35=some [.int .i64,.int .i64]:=by kernel_rfl
def M.PerWf (p:M.Per):Prop:=(Lit.int .i64 p.1).wf=true∧(Lit.int .i64 p.2).wf=true
theorem xsC (x:AV) (hl:x.cells.length=tyP.length) (he:x=elemOf x.cells) (hx:∀ j,j<tyP.length→OfTy (tyP.getD j .bool) (x.cells.getD j .top)):∃ a,x=M.encP a∧M.PerWf a:=by
 generalize x.cells=cs at *
 match cs,hl with
 | [c0,c1],_ =>
  have h0:=hx 0 (by decide)
  have h1:=hx 1 (by decide)
  change OfTy (.int .i64) c0 at h0
  change OfTy (.int .i64) c1 at h1
  cases h0 with
  | int _ k hk=>cases h1 with
   | int _ i hi=>exact ⟨(k,i),he,hk,hi⟩
section
variable {H : Type} {enc : TypeId × Value → H} {w : World} {base b : Nat} {sp : Nat → Bool} {held : Bool} {v : Value} {d : DataW H} {ps : List MemPlace}
theorem xrL {P:Program} {t:TypeId} {n:Nat} {Ts:List Ty} {fs:Array Field} (ht:P.underlying t=some (.struct fs)) (hf:flat P n t=some Ts) (hval:Value.okWide P w .any base t v) (hd:DataW.Trod enc P w b sp held t v d ps) :
  ∃ cs:List AV,Rel w (fun _=>False) noBox v (.agg cs)∧cs.length=Ts.length∧(∀ j,j<Ts.length→OfTy (Ts.getD j .bool) (cs.getD j .top))∧∀ μ:DataW H→Nat,Meas μ→AV.wts cs≤μ d:=by
 obtain ⟨vs,rfl,_⟩:=okWide_struct ht hval
 obtain ⟨fuel,hf'⟩:=hd
 obtain ⟨xs,ha,hw⟩:=xhl n t Ts hf fuel _ _ hf'
 obtain ⟨l1,l2⟩:=ha.len
 have l1':vs.size=Ts.length:=by simpa [Value.cells] using l1
 refine ⟨xs,.agg vs xs (by omega) fun i hi=>?_,l2,fun j hj=>(ha.get j hj).2,fun μ hμ=>hw μ hμ⟩
 have:=(ha.get i (by omega)).1
 simpa [Value.cells,List.getD_eq_getElem?_getD,Array.getD_eq_getD_getElem?] using this
theorem xqR (hval:Value.okWide Tryz.prog w .any base 23 v) (hd:DataW.Trod enc Tryz.prog w b sp held 23 v d ps):∃ l:List M.Fc,Rel w (fun _=>False) noBox v (.list 3 (l.map M.encF))∧(∀ μ:DataW H→Nat,Meas μ→(AV.list 3 (l.map M.encF)).wt≤μ d)∧(l.length≤maxLen∧∀ y,y∈l→y.wf):=by
 obtain ⟨a,h,hT,hB⟩:=xqg Tryz.underlying23 xqE hval hd
 obtain ⟨l,rfl,hw⟩:=xke (es:=tyF) xsB hT
 exact ⟨l,h,hB,hw⟩
theorem xsn (hval:Value.okWide Tryz.prog w .any base 35 v) (hd:DataW.Trod enc Tryz.prog w b sp held 35 v d ps):∃ p:M.Per,Rel w (fun _=>False) noBox v (.agg [.int .i64 p.1,.int .i64 p.2])∧(∀ μ:DataW H→Nat,Meas μ→(AV.agg [.int .i64 p.1,.int .i64 p.2]).wt≤μ d)∧M.PerWf p:=by
 obtain ⟨cs,h,hl,hx,hB⟩:=xrL Tryz.underlying35 xse hval hd
 match cs,hl with
 | [c0,c1],_ =>
  have h0:=hx 0 (by decide)
  have h1:=hx 1 (by decide)
  change OfTy (.int .i64) c0 at h0
  change OfTy (.int .i64) c1 at h1
  cases h0 with
  | int _ n0 w0=>cases h1 with
   | int _ n1 w1=>exact ⟨(n0,n1),h,fun μ hμ=>hB μ hμ,w0,w1⟩
theorem xqS (hval:Value.okWide Tryz.prog w .any base 33 v) (hd:DataW.Trod enc Tryz.prog w b sp held 33 v d ps):∃ l:List M.Per,Rel w (fun _=>False) noBox v (.list 2 (l.map M.encP))∧(∀ μ:DataW H→Nat,Meas μ→(AV.list 2 (l.map M.encP)).wt≤μ d)∧(l.length≤maxLen∧∀ y,y∈l→M.PerWf y):=by
 obtain ⟨a,h,hT,hB⟩:=xqg Tryz.underlying33 xqF hval hd
 obtain ⟨l,rfl,hw⟩:=xke (es:=tyP) xsC hT
 exact ⟨l,h,hB,hw⟩
end
end Go.Sim
end
noncomputable section
namespace Go.Sim.M
open Go.RowKit Go.Sim.Srt
def Strict {α:Type} (c:α→α→Int) (l:List α):Prop:=l.Pairwise fun x y=>c x y<0
theorem Cm.self {α:Type} {c:α→α→Int} (h:Cm c) (x:α):c x x=0:=by have:=h.swap x x;omega
theorem Strict.nodup {α:Type} {c:α→α→Int} (hc:Cm c) {l:List α} (h:Strict c l):l.Nodup :=
 List.Pairwise.imp (fun {x y} hxy he=>by subst he;rw [hc.self] at hxy;omega) h
theorem Strict.sorted {α:Type} {c:α→α→Int} {l:List α} (h:Strict c l):Sorted c l:=List.Pairwise.imp (fun hxy=>by omega) h
theorem xi6 {α:Type} {c:α→α→Int} (hc:Cm c) (h0:∀ x y,c x y=0→x=y) {l m:List α} (hl:Strict c l) (hm:Strict c m) (h:∀ x,x∈l↔x∈m):l=m :=
 xiS hc h0 ((List.perm_ext_iff_of_nodup (hl.nodup hc) (hm.nodup hc)).2 h) hl.sorted hm.sorted
theorem xqa (x y:Int):cmpI x y=if x<y then -1 else if y<x then 1 else 0:=rfl
theorem xkk {p q:Per}:cmpP p q≤0↔p.1<q.1∨p.1=q.1∧p.2≤q.2:=by
 unfold cmpP orI
 simp only [xqa]
 repeat' split
 all_goals omega
theorem xnD (p q:Per):cmpP q p=-(cmpP p q):=by
 unfold cmpP orI
 simp only [xqa]
 repeat' split
 all_goals omega
theorem xtm:Cm cmpP:=⟨xnD,fun x y z h1 h2=>by rw [xkk] at *;omega⟩
theorem xhf (p q:Per) (h:cmpP p q=0):p=q:=by
 have h1:cmpP p q≤0:=by omega
 have h2:cmpP q p≤0:=by rw [xnD];omega
 rw [xkk] at h1 h2
 exact Prod.ext (by omega) (by omega)
theorem xlO {A:List Per} (h:IsSpan A) (h0:∀ t,inL A t=false):A=[]:=xfX h xqL fun t=>by rw [h0,xie]
structure IsLevs (N:Int→Nat) (P:List Per):Prop where
 sorted:Sorted cmpP P
 lev:∃ (A:Nat→List Per) (H:Nat),(∀ t,N t≤H)∧(∀ h,IsSpan (A h)∧∀ t,inL (A h) t=decide (h<N t))∧P.Perm ((List.range H).flatMap A)
theorem xfu (A:Nat→List Per) (H:Nat) (h0:∀ h,H≤h→A h=[]):∀ d,(List.range (H+d)).flatMap A=(List.range H).flatMap A
 | 0=>rfl
 | d+1=>by rw [←Nat.add_assoc,List.range_succ,List.flatMap_append,xfu A H h0 d,List.flatMap_cons,h0 (H+d) (by omega)];simp
theorem IsLevs.unique {N:Int→Nat} {P P':List Per} (h:IsLevs N P) (h':IsLevs N P'):P=P':=by
 obtain ⟨A,H,h1,h2,h3⟩:=h.lev
 obtain ⟨A',H',h1',h2',h3'⟩:=h'.lev
 obtain rfl:A=A':=funext fun k=>xfX (h2 k).1 (h2' k).1 fun t=>by rw [(h2 k).2,(h2' k).2]
 have nil:∀ K,(∀ t,N t≤K)→∀ k,K≤k→A k=[]:=fun K hK k hk=>xlO (h2 k).1 fun t=>by rw [(h2 k).2];have:=hK t;simp;omega
 refine xiS xtm xhf (h3.trans (List.Perm.trans (.of_eq ?_) h3'.symm)) h.sorted h'.sorted
 rcases Nat.le_total H H' with hle|hle
 · have:=xfu A H (nil H h1) (H' - H)
   rw [show H+(H' - H)=H' by omega] at this
   exact this.symm
 · have:=xfu A H' (nil H' h1') (H - H')
   rw [show H'+(H - H')=H by omega] at this
   exact this
theorem xsZ {A:List Per} {N:Int→Nat} {k:Nat} (hs:IsSpan A) (hN:∀ t,inL A t=decide (k<N t)) {p:Per} (hp:p∈A):(∀ t,p.1≤t→t<p.2→k<N t)∧N (p.1 - 1)≤k∧N p.2≤k:=by
 have hv:=xbu.1 (hs.1 p hp)
 refine ⟨fun t h1 h2=>?_,?_,?_⟩
 · have:inL A t=true:=xc7.2 ⟨p,hp,hs.1 p hp,h1,h2⟩
   rw [hN] at this;simpa using this
 · have:inL A (p.1 - 1)=false:=by
    cases hc:inL A (p.1 - 1) with
    | false=>rfl
    | true =>
     obtain ⟨q,hq,hqv,h1,h2⟩:=xc7.1 hc
     have hne:p≠q:=fun e=>by subst e;omega
     rcases pairwise_mem hs.2 hp hq hne with h|h<;>omega
   rw [hN] at this;simpa using this
 · have:inL A p.2=false:=by
    cases hc:inL A p.2 with
    | false=>rfl
    | true =>
     obtain ⟨q,hq,hqv,h1,h2⟩:=xc7.1 hc
     have hne:p≠q:=fun e=>by subst e;omega
     rcases pairwise_mem hs.2 hp hq hne with h|h<;>omega
   rw [hN] at this;simpa using this
where
 pairwise_mem {l:List Per} (h:l.Pairwise fun p q=>p.2<q.1) {p q:Per} (hp:p∈l) (hq:q∈l) (hne:p≠q):p.2<q.1∨q.2<p.1:=by
  induction l with
  | nil=>simp at hp
  | cons x l ih =>
   obtain ⟨h1,h2⟩:=List.pairwise_cons.1 h
   rcases List.mem_cons.1 hp with e1|hp1
   · rcases List.mem_cons.1 hq with e2|hq1
     · exact absurd (e1.trans e2.symm) hne
     · exact .inl (e1▸h1 q hq1)
   · rcases List.mem_cons.1 hq with e2|hq1
     · exact .inr (e2▸h1 p hp1)
     · exact ih h2 hp1 hq1
def cnt (l:List Fc) (r:Row) (t:Int):Nat:=l.countP fun f=>decide (f.r=r)&&hasP f.p t
def IsRows (l:List Fc) (R:List Row):Prop:=Strict cmpR R∧∀ r,r∈R↔∃ f,f∈l∧f.r=r∧pv f.p=true
theorem xqb {l:List Fc} {r:Row} {t:Int}:0<cnt l r t↔∃ f,f∈l∧f.r=r∧hasP f.p t=true:=by
 unfold cnt
 rw [List.countP_pos_iff]
 simp
theorem xr1 {p:Per} (h:pv p=true):hasP p p.1=true:=by
 have:=xbu.1 h
 exact xbH.2 ⟨h,by omega,by omega⟩
theorem xnL {p:Per} {t:Int} (h:hasP p t=true):pv p=true:=(xbH.1 h).1
theorem xlM {l:List Fc} {r:Row}:(∃ f,f∈l∧f.r=r∧pv f.p=true)↔∃ t,0<cnt l r t:=by
 constructor
 · rintro ⟨f,h1,h2,h3⟩
   exact ⟨f.p.1,xqb.2 ⟨f,h1,h2,xr1 h3⟩⟩
 · rintro ⟨t,h⟩
   obtain ⟨f,h1,h2,h3⟩:=xqb.1 h
   exact ⟨f,h1,h2,xnL h3⟩
theorem IsRows.unique {l l':List Fc} {R R':List Row} (h:IsRows l R) (h':IsRows l' R') (hc:∀ r t,cnt l r t=cnt l' r t):R=R' :=
 xi6 xtn (fun _ _=>xnF) h.1 h'.1 fun r=>by rw [h.2,h'.2,xlM,xlM];simp only [hc]
def facts (R:List Row) (L:Row→List Per):List Fc:=R.flatMap fun r=>(L r).map fun p=>⟨r,p⟩
def IsBag (l B:List Fc):Prop:=∃ R L,IsRows l R∧(∀ r,r∈R→IsLevs (cnt l r) (L r))∧B=facts R L
def IsSet (l B:List Fc):Prop:=∃ R L,IsRows l R∧(∀ r,r∈R→IsSpan (L r)∧∀ t,inL (L r) t=decide (0<cnt l r t))∧B=facts R L
theorem xkS {R:List Row} {L L':Row→List Per} (h:∀ r,r∈R→L r=L' r):facts R L=facts R L':=by
 unfold facts
 induction R with
 | nil=>rfl
 | cons r R ih=>rw [List.flatMap_cons,List.flatMap_cons,h r (by simp),ih fun x hx=>h x (by simp [hx])]
theorem IsBag.unique {l l' B B':List Fc} (h:IsBag l B) (h':IsBag l' B') (hc:∀ r t,cnt l r t=cnt l' r t):B=B':=by
 obtain ⟨R,L,h1,h2,rfl⟩:=h
 obtain ⟨R',L',h1',h2',rfl⟩:=h'
 obtain rfl:=h1.unique h1' hc
 refine xkS fun r hr=>(h2 r hr).unique ?_
 have:=h2' r hr
 rwa [←show cnt l r=cnt l' r from funext fun t=>hc r t] at this
theorem IsSet.unique {l l' B B':List Fc} (h:IsSet l B) (h':IsSet l' B') (hc:∀ r t,cnt l r t=cnt l' r t):B=B':=by
 obtain ⟨R,L,h1,h2,rfl⟩:=h
 obtain ⟨R',L',h1',h2',rfl⟩:=h'
 obtain rfl:=h1.unique h1' hc
 exact xkS fun r hr=>xfX (h2 r hr).1 (h2' r hr).1 fun t=>by rw [(h2 r hr).2,(h2' r hr).2,hc]
theorem IsRows.zero {l:List Fc} {R:List Row} (h:IsRows l R) {r:Row} (hr:r∉R) (t:Int):cnt l r t=0:=by
 cases hc:cnt l r t with
 | zero=>rfl
 | succ n=>exact absurd ((h.2 r).2 (xlM.2 ⟨t,by omega⟩)) hr
def psOf (l:List Fc) (r:Row):List Per:=(l.filter fun f=>decide (f.r=r)&&pv f.p).map (·.p)
theorem xtz (l:List Fc) (r:Row) (t:Int):(psOf l r).countP (hasP · t)=cnt l r t:=by
 unfold psOf cnt
 rw [List.countP_map,List.countP_filter]
 refine List.countP_congr fun f _=>?_
 simp only [Function.comp,Bool.and_eq_true,decide_eq_true_eq]
 constructor
 · rintro ⟨h1,h2,_⟩;exact ⟨h2,h1⟩
 · rintro ⟨h1,h2⟩;exact ⟨h2,h1,xnL h2⟩
theorem xqB {ps:List Per} {t:Int} {k:Nat} (h1:k<ps.countP (hasP · t)) (h2:ps.countP (hasP · (t - 1))≤k):t∈ps.map (·.1):=by
 have:∃ p,p∈ps∧hasP p t=true∧hasP p (t - 1)=false:=by
  refine Classical.byContradiction fun hn=>?_
  have:ps.countP (hasP · t)≤ps.countP (hasP · (t - 1)):=List.countP_mono_left fun p hp h=>by
   cases hc:hasP p (t - 1) with
   | true=>rfl
   | false=>exact absurd ⟨p,hp,h,hc⟩ hn
  omega
 obtain ⟨p,hp,a,b⟩:=this
 obtain ⟨hv,x,y⟩:=xbH.1 a
 have:¬ p.1≤t - 1:=fun h=>by rw [xbH.2 ⟨hv,h,by omega⟩] at b;cases b
 exact List.mem_map.2 ⟨p,hp,by omega⟩
theorem xsY {ps A:List Per} {k:Nat} (hs:IsSpan A) (hN:∀ t,inL A t=decide (k<ps.countP (hasP · t))):A.length≤ps.length:=by
 have hn:(A.map (·.1)).Nodup:=by
  unfold List.Nodup
  rw [List.pairwise_map]
  refine List.Pairwise.imp_of_mem (fun {p q} hp hq h=>?_) hs.2
  have:=xbu.1 (hs.1 p hp);omega
 have:(A.map (·.1)) ⊆ ps.map (·.1):=fun t ht=>by
  obtain ⟨p,hp,rfl⟩:=List.mem_map.1 ht
  obtain ⟨a,b,_⟩:=xsZ (N:=fun t=>ps.countP (hasP · t)) hs hN hp
  have hv:=xbu.1 (hs.1 p hp)
  exact xqB (a p.1 (Int.le_refl _) (by omega)) b
 have:=hn.length_le_of_subset this
 simpa using this
theorem IsLevs.len {ps P:List Per} (h:IsLevs (fun t=>ps.countP (hasP · t)) P):P.length≤ps.length*ps.length:=by
 obtain ⟨A,H,h1,h2,h3⟩:=h.lev
 have hx:P.length=((List.range ps.length).flatMap A).length:=by
  rw [h3.length_eq]
  have nil:∀ k,ps.length≤k→A k=[]:=fun k hk=>xlO (h2 k).1 fun t=>by
   rw [(h2 k).2]
   have:=List.countP_le_length (p:=(hasP · t)) (l:=ps)
   simp;omega
  have nil2:∀ k,H≤k→A k=[]:=fun k hk=>xlO (h2 k).1 fun t=>by
   rw [(h2 k).2];have:=h1 t;simp;omega
  rcases Nat.le_total H ps.length with hle|hle
  · have:=xfu A H nil2 (ps.length - H)
    rw [show H+(ps.length - H)=ps.length by omega] at this
    rw [this]
  · have:=xfu A ps.length nil (H - ps.length)
    rw [show ps.length+(H - ps.length)=H by omega] at this
    rw [this]
 rw [hx]
 have:=xlh (g:=A) (c:=ps.length) (List.range ps.length) fun k _=>xsY (h2 k).1 (h2 k).2
 simpa using this
theorem xnP {L:Row→List Per}:∀ {R:List Row} {l:List Fc},R.Nodup→(∀ r,r∈R→(L r).length≤(psOf l r).length*(psOf l r).length)→(facts R L).length≤l.length*l.length
 | [],l,_,_=>by simp [facts]
 | r::R,l,hn,h=>by
  obtain ⟨n1,n2⟩:=List.nodup_cons.1 hn
  have e:facts (r::R) L=((L r).map fun p=>(⟨r,p⟩:Fc))++facts R L:=by simp [facts]
  let l2:=l.filter fun f=>!decide (f.r=r)
  have hps:∀ r',r'∈R→psOf l2 r'=psOf l r':=fun r' hr'=>by
   have hne:r'≠r:=fun e=>n1 (e▸hr')
   unfold psOf
   simp only [l2,List.filter_filter]
   congr 1
   refine List.filter_congr fun f _=>?_
   by_cases hf:f.r=r'
   · have:¬ f.r=r:=fun e=>hne (hf▸e)
     simp [hf,hne]
   · simp [hf]
  have ih:=xnP (L:=L) (l:=l2) n2 fun r' hr'=>by rw [hps r' hr'];exact h r' (by simp [hr'])
  have h1:=h r (by simp)
  have hl:(psOf l r).length+l2.length≤l.length:=by
   unfold psOf
   rw [List.length_map]
   have:=List.length_eq_countP_add_countP (fun f:Fc=>decide (f.r=r)) (l:=l)
   have a1:(l.filter fun f=>decide (f.r=r)&&pv f.p).length≤l.countP fun f=>decide (f.r=r):=by
    rw [←List.countP_eq_length_filter]
    exact List.countP_mono_left fun f _ hf=>by simp only [Bool.and_eq_true] at hf;exact hf.1
   have a2:l2.length=l.countP fun f=>¬ decide (f.r=r)=true:=by
    rw [List.countP_eq_length_filter];simp [l2]
   omega
  rw [e,List.length_append,List.length_map]
  have m1:=Nat.mul_le_mul hl hl
  have m2:(psOf l r).length*(psOf l r).length+l2.length*l2.length≤((psOf l r).length+l2.length)*((psOf l r).length+l2.length):=by
   rw [Nat.add_mul,Nat.mul_add,Nat.mul_add];omega
  omega
theorem IsBag.len {l B:List Fc} (h:IsBag l B):B.length≤l.length*l.length:=by
 obtain ⟨R,L,h1,h2,rfl⟩:=h
 refine xnP (h1.1.nodup xtn) fun r hr=>?_
 have:=h2 r hr
 rw [show cnt l r=fun t=>(psOf l r).countP (hasP · t) from funext fun t=>(xtz l r t).symm] at this
 exact this.len
end Go.Sim.M
end
noncomputable section
namespace Go.Sim.M
open Go.RowKit Go.Sim.Srt
abbrev Asc (l:List Int):Prop:=l.Pairwise fun x y=>x<y
def insI:List Int→Int→List Int
 | [],n=>[n]
 | x::l,n=>if x<n then x::insI l n else if n<x then n::x::l else x::l
theorem xiD:∀ (l:List Int) (n x:Int),x∈insI l n↔x=n∨x∈l
 | [],n,x=>by simp [insI]
 | y::l,n,x=>by
  unfold insI
  split
  · rw [List.mem_cons,xiD l n x,List.mem_cons]
    constructor<;>rintro (h|h|h)<;>simp [h]
  · split
    · simp
    · have:y=n:=by omega
      subst this;simp
theorem xlk:∀ {l:List Int},Asc l→∀ n,Asc (insI l n)
 | [],_,n=>by simp [insI,Asc]
 | y::l,h,n=>by
  obtain ⟨h1,h2⟩:=List.pairwise_cons.1 h
  unfold insI
  split
  · refine List.pairwise_cons.2 ⟨fun z hz=>?_,xlk h2 n⟩
    rcases (xiD l n z).1 hz with rfl|hz
    · assumption
    · exact h1 z hz
  · split
    · rename_i hn
      refine List.pairwise_cons.2 ⟨fun z hz=>?_,h⟩
      rcases List.mem_cons.1 hz with rfl|hz
      · exact hn
      · have:=h1 z hz;omega
    · exact h
theorem xgN:∀ (l:List Int) (n:Int),(insI l n).length≤l.length+1
 | [],n=>by simp [insI]
 | y::l,n=>by
  unfold insI
  have:=xgN l n
  repeat' split
  all_goals simp
  all_goals omega
theorem xll (n:Int):∀ l:List Int,∃ m,m≤l.length∧(∀ k (h:k<m) (h2:k<l.length),l[k]<n)∧(∀ h:m<l.length,¬ l[m]<n)∧insI l n=l.take m++(if h:m<l.length then (if n<l[m] then n::l.drop m else l.drop m) else [n])
 | []=>⟨0,Nat.le_refl _,fun k h=>by omega,fun h=>by simp at h,by simp [insI]⟩
 | y::l=>by
  by_cases hy:y<n
  · obtain ⟨m,h1,h2,h3,h4⟩:=xll n l
    refine ⟨m+1,by simpa using h1,fun k h hk=>?_,fun h=>?_,?_⟩
    · cases k with
      | zero=>simpa using hy
      | succ k=>simpa using h2 k (by omega) (by simpa using hk)
    · simpa using h3 (by simpa using h)
    · unfold insI
      rw [if_pos hy,h4]
      by_cases hm:m<l.length<;>simp [hm]
  · refine ⟨0,Nat.zero_le _,fun k h=>by omega,fun _=>by simpa using hy,?_⟩
    unfold insI
    rw [if_neg hy]
    by_cases h:n<y<;>simp [h]
structure StepI (N:Int→Int) (T:Int) (S:List Per):Prop where
 asc:S.Pairwise fun a b=>a.1<b.1
 mem:∀ s,s∈S↔0≤s.1∧s.1<T∧s.2=N s.1∧(s.1=0∨N (s.1 - 1)≠s.2)
 last:0<T→∃ S' f,S=S'++[(f,N (T - 1))]
theorem StepI.nil (N:Int→Int):StepI N 0 []:=⟨List.Pairwise.nil,fun s=>by simp;omega,fun h=>by omega⟩
def putS (S:List Per) (f n:Int):List Per:=match S.getLast? with
 | some s=>if s.2=n then S else S++[(f,n)]
 | none=>S++[(f,n)]
theorem StepI.unique {N:Int→Int} {T:Int} {S S':List Per} (h:StepI N T S) (h':StepI N T S'):S=S' :=
 xi6 xtm xhf (h.asc.imp fun {x y} hxy=>by
  have h1:cmpP x y≤0:=xkk.2 (.inl hxy)
  by_cases h0:cmpP x y=0
  · have:=xhf x y h0;subst this;omega
  · omega) (h'.asc.imp fun {x y} hxy=>by
  have h1:cmpP x y≤0:=xkk.2 (.inl hxy)
  by_cases h0:cmpP x y=0
  · have:=xhf x y h0;subst this;omega
  · omega) fun s=>by rw [h.mem,h'.mem]
theorem StepI.put {N:Int→Int} {T T':Int} {S:List Per} (h:StepI N T S) (h0:0≤T) (hlt:T<T') (hc:∀ t,T≤t→t<T'→N t=N T):StepI N T' (putS S T (N T)):=by
 rcases Int.lt_or_eq_of_le h0 with hp|hz
 · obtain ⟨S',f,rfl⟩:=h.last hp
   unfold putS
   rw [List.getLast?_append]
   simp only [List.getLast?_singleton,Option.some_or]
   by_cases he:N (T - 1)=N T
   · rw [if_pos he]
     refine ⟨h.asc,fun s=>?_,fun _=>⟨S',f,by rw [he,hc (T' - 1) (by omega) (by omega)]⟩⟩
     rw [h.mem]
     constructor
     · rintro ⟨a,b,c,d⟩;exact ⟨a,by omega,c,d⟩
     · rintro ⟨a,b,c,d⟩
       refine ⟨a,?_,c,d⟩
       rcases Int.lt_or_le s.1 T with hs|hs
       · exact hs
       · exfalso
         have e1:=hc s.1 hs b
         rcases d with d|d
         · omega
         · rcases Int.lt_or_eq_of_le hs with h2|h2
           · have e2:=hc (s.1 - 1) (by omega) (by omega)
             exact d (by rw [e2,c,e1])
           · rw [←h2] at d c;exact d (by rw [he,c])
   · rw [if_neg he]
     refine ⟨?_,fun s=>?_,fun _=>⟨_,T,by rw [hc (T' - 1) (by omega) (by omega)]⟩⟩
     · rw [List.pairwise_append]
       refine ⟨h.asc,List.pairwise_singleton _ _,fun a ha b hb=>?_⟩
       simp only [List.mem_singleton] at hb
       subst hb
       exact ((h.mem a).1 ha).2.1
     · rw [List.mem_append,h.mem,List.mem_singleton]
       constructor
       · rintro (⟨a,b,c,d⟩|rfl)
         · exact ⟨a,by omega,c,d⟩
         · exact ⟨h0,hlt,rfl,.inr he⟩
       · rintro ⟨a,b,c,d⟩
         rcases Int.lt_or_le s.1 T with hs|hs
         · exact .inl ⟨a,hs,c,d⟩
         · right
           have e1:=hc s.1 hs b
           rcases Int.lt_or_eq_of_le hs with h2|h2
           · exfalso
             have e2:=hc (s.1 - 1) (by omega) (by omega)
             rcases d with d|d
             · omega
             · exact d (by rw [e2,c,e1])
           · exact Prod.ext h2.symm (by rw [c,e1])
 · subst hz
   have hS:S=[]:=by
    rw [List.eq_nil_iff_forall_not_mem]
    intro s hs
    have:=(h.mem s).1 hs
    omega
   subst hS
   refine ⟨by simp [putS],fun s=>?_,fun _=>⟨[],0,by simp [putS];exact (hc (T' - 1) (by omega) (by omega)).symm⟩⟩
   simp only [putS,List.getLast?_nil,List.nil_append,List.mem_singleton]
   constructor
   · rintro rfl;exact ⟨Int.le_refl _,hlt,rfl,.inl rfl⟩
   · rintro ⟨a,b,c,d⟩
     have e1:=hc s.1 a b
     rcases Int.lt_or_eq_of_le a with h2|h2
     · exfalso
       have e2:=hc (s.1 - 1) (by omega) (by omega)
       rcases d with d|d
       · omega
       · exact d (by rw [e2,c,e1])
     · exact Prod.ext h2.symm (by rw [c,e1])
theorem xpa (S:List Per) (f n:Int):(putS S f n).length≤S.length+1:=by
 unfold putS;repeat' split
 all_goals simp
def sumC (l:List Cnt) (t:Int):Int:=(l.map fun c=>if hasP c.1 t=true then c.2 else 0).sum
theorem xf8 (c:Cnt) (l:List Cnt) (t:Int):sumC (c::l) t=(if hasP c.1 t=true then c.2 else 0)+sumC l t:=by simp [sumC]
theorem xpY (a b:List Cnt) (t:Int):sumC (a++b) t=sumC a t+sumC b t:=by simp [sumC]
theorem xpm (t:Int):sumC [] t=0:=rfl
theorem xmQ {T T':Int}:∀ {l:List Cnt},(∀ c,c∈l→pv c.1=true→¬ (T<c.1.1∧c.1.1<T')∧¬ (T<c.1.2∧c.1.2<T'))→∀ t,T≤t→t<T'→sumC l t=sumC l T
 | [],_,t,_,_=>rfl
 | c::l,h,t,h1,h2=>by
  rw [xf8,xf8,xmQ (fun c hc=>h c (by simp [hc])) t h1 h2]
  congr 2
  cases hv:pv c.1 with
  | false=>simp [hasP,hv]
  | true =>
   have:=h c (by simp) hv
   simp only [hasP,hv,Bool.true_and,Bool.and_eq_true,decide_eq_true_eq,eq_iff_iff]
   omega
theorem xpl (B:Int) (hB:0≤B) (t:Int):∀ l:List Cnt,(∀ c,c∈l→-B≤c.2∧c.2≤B)→-(B*l.length)≤sumC l t∧sumC l t≤B*l.length
 | [],_=>by simp [xpm]
 | c::l,h=>by
  have ih:=xpl B hB t l fun c hc=>h c (by simp [hc])
  have hc:=h c (by simp)
  rw [xf8,List.length_cons,show B*((l.length+1:Nat):Int)=B*(l.length:Int)+B by rw [Int.natCast_add,Int.mul_add];simp]
  split<;>omega
end Go.Sim.M
end
noncomputable section
set_option maxRecDepth 100000
namespace Go.Sim.M
open Go.RowKit Go.Sim.Srt
theorem xtr (l:List Int) (n:Int) (hl:l.length≤1048576) (m:Nat) (hm:m≤l.length) (h1:∀ k (h:k<m) (h2:k<l.length),l[k]<n) (h2:∀ h:m<l.length,¬ l[m]<n) :
  Iter (xaq (l.map encN) n) ((0:Nat),(0:Int),[])=some (m,(m:Int),(l.take m).map encN):=by
 refine xdF (fun k=>((k,(k:Int),(l.take k).map encN):Nat×Int×List AV)) m _ (fun k hk=>?_) ?_ m 0 (by omega)
 · have hkl:k<l.length:=by omega
   have i1:(k:Int)<(l.length:Int):=by omega
   have i2:=h1 k hk hkl
   have m1:(k+1)*8≤140737488355328:=by omega
   have m2:k+1≤4611686018427387904:=by omega
   have tl:(l.take k).length=k:=by rw [List.length_take];omega
   have gf:(l.map encN).getD k .top=encN l[k]:=xaG _ _ _ hkl
   simp only [xaq,xbR,List.length_map,xab,xac,decide_true,decide_false,Bool.and_true,Bool.true_and,Bool.not_true,Bool.not_false,Int.toNat_natCast,Int.natCast_nonneg,Option.isSome_some,Option.getD_some,beq_self_eq_true,Nat.zero_add,Nat.sub_zero,hkl,i1,i2,gf,cN,sN,tl,m1,m2,wrapS (n:=k) (by omega)]
   rw [List.take_add_one,List.getElem?_eq_getElem hkl,List.map_append]
   rfl
 · by_cases hml:m<l.length
   · have i1:(m:Int)<(l.length:Int):=by omega
     have i2:=h2 hml
     have gf:(l.map encN).getD m .top=encN l[m]:=xaG _ _ _ hml
     simp only [xaq,xbR,List.length_map,xab,xac,decide_true,decide_false,Bool.and_true,Bool.true_and,Bool.not_true,Bool.not_false,Int.toNat_natCast,Int.natCast_nonneg,Option.isSome_some,Option.getD_some,beq_self_eq_true,Nat.zero_add,Nat.sub_zero,hml,i1,i2,gf,cN,sN]
   · have i1:¬ (m:Int)<(l.length:Int):=by omega
     simp only [xaq,xbR,List.length_map,xab,xac,decide_true,decide_false,Bool.and_true,Bool.true_and,Bool.not_true,Bool.not_false,Int.toNat_natCast,Int.natCast_nonneg,Option.isSome_some,Option.getD_some,beq_self_eq_true,Nat.zero_add,Nat.sub_zero,i1]
theorem xox (l:List Int) (hl:l.length≤1048576):∀ (d i:Nat) (D:List Int),i+d=l.length→D.length≤1048576+i →
  Iter (xar (l.map encN)) (D.length,(i:Int),D.map encN)=some ((D++l.drop i).length,(D++l.drop i).map encN)
 | 0,i,D,h,hD=>by
  obtain rfl:i=l.length:=by omega
  rw [List.drop_eq_nil_of_le (Nat.le_refl _),List.append_nil]
  refine xc0 ?_
  simp only [xar,xcN,List.length_map,Int.lt_irrefl,decide_false,xac]
 | d+1,i,D,h,hD=>by
  have hil:i<l.length:=by omega
  have i1:(i:Int)<(l.length:Int):=by omega
  have m1:(D.length+1)*8≤140737488355328:=by omega
  have m2:D.length+1≤4611686018427387904:=by omega
  have gf:(l.map encN).getD i .top=encN l[i]:=xaG _ _ _ hil
  rw [xeI (s':=((D++[l[i]]).length,((i+1:Nat):Int),(D++[l[i]]).map encN)) ?_,xox l hl d (i+1) (D++[l[i]]) (by omega) (by rw [List.length_append];simp;omega),xjE hil,List.append_assoc]
  · rfl
  · simp only [xar,xcN,List.length_map,xab,xac,decide_true,decide_false,Bool.and_true,Bool.true_and,Bool.not_true,Bool.not_false,Int.toNat_natCast,Int.natCast_nonneg,Option.isSome_some,Option.getD_some,beq_self_eq_true,Nat.zero_add,Nat.sub_zero,hil,i1,gf,cN,sN,m1,m2,wrapS (n:=i) (by omega)]
    simp [encN]
theorem xnM (l:List Int) (n:Int) (hl:l.length≤1048576):xa8 (l.map encN) n=some ((insI l n).map encN):=by
 obtain ⟨m,hm,h1,h2,h3⟩:=xll n l
 have e0:=xtr l n hl m hm h1 h2
 have tl:(l.take m).length=m:=by rw [List.length_take];omega
 have e1:=xox l hl (l.length - m) m (l.take m++[n]) (by omega) (by rw [List.length_append,tl];simp;omega)
 have e2:=xox l hl (l.length - m) m (l.take m) (by omega) (by omega)
 rw [List.length_append,tl,List.map_append] at e1
 rw [tl] at e2
 have e1:Iter (xar (l.map encN)) (m+1,(m:Int),(l.take m).map encN++[AV.int .i64 n])=some ((l.take m++[n]++l.drop m).length,(l.take m++[n]++l.drop m).map encN):=e1
 have m1:(m+1)*8≤140737488355328:=by omega
 have m2:m+1≤4611686018427387904:=by omega
 rw [h3]
 unfold xa8 xeX
 by_cases hml:m<l.length
 · have i1:((m:Int)==(l.length:Int))=false:=by simp;omega
   have i2:(m:Int)<(l.length:Int):=by omega
   have gf:(l.map encN).getD m .top=encN l[m]:=xaG _ _ _ hml
   rw [dif_pos hml]
   by_cases hn:n<l[m]
   · have i3:l[m]>n:=hn
     simp only [xaD,xbJ,xbK,xdr,xds,xdt,xdu,xdv,xdw,xdy,xa9,xc1,xb6,xb7,xc2,xc3,e0,Option.isSome_some,Option.getD_some,List.length_map,i1,i2,hml,gf,cN,sN,i3,m1,m2,tl,e1,List.length_map,xab,xac,decide_true,decide_false,Bool.and_true,Bool.true_and,Bool.not_true,Bool.not_false,Int.toNat_natCast,Int.natCast_nonneg,Option.isSome_some,Option.getD_some,beq_self_eq_true,Nat.zero_add,Nat.sub_zero,List.drop_zero,List.take_of_length_le,Nat.zero_add,List.length_map,Nat.le_refl,decide_true,Bool.and_true,xab,Option.isSome_some,Option.getD_some,↓reduceIte,List.append_assoc,List.singleton_append]
   · have i3:¬ l[m]>n:=hn
     simp only [xaD,xbJ,xbK,xdr,xds,xdt,xdu,xdv,xdw,xdy,xa9,xc1,xb6,xb7,xc2,xc3,e0,Option.isSome_some,Option.getD_some,List.length_map,i1,i2,hml,gf,cN,sN,i3,e2,List.length_map,xab,xac,decide_true,decide_false,Bool.and_true,Bool.true_and,Bool.not_true,Bool.not_false,Int.toNat_natCast,Int.natCast_nonneg,Option.isSome_some,Option.getD_some,beq_self_eq_true,Nat.zero_add,Nat.sub_zero,List.drop_zero,List.take_of_length_le,Nat.zero_add,List.length_map,Nat.le_refl,decide_true,Bool.and_true,xab,Option.isSome_some,Option.getD_some,↓reduceIte]
 · have i1:((m:Int)==(l.length:Int))=true:=by simp;omega
   rw [dif_neg hml]
   have hd:l.drop m=[]:=List.drop_eq_nil_of_le (by omega)
   rw [hd,List.append_nil] at e1
   simp only [xaD,xbJ,xbK,xdr,xds,xdt,xdu,xdv,xdw,xdy,xa9,xc1,xb6,xb7,xc2,xc3,e0,Option.isSome_some,Option.getD_some,List.length_map,i1,m1,m2,tl,e1,List.length_map,xab,xac,decide_true,decide_false,Bool.and_true,Bool.true_and,Bool.not_true,Bool.not_false,Int.toNat_natCast,Int.natCast_nonneg,Option.isSome_some,Option.getD_some,beq_self_eq_true,Nat.zero_add,Nat.sub_zero,List.drop_zero,List.take_of_length_le,Nat.zero_add,List.length_map,Nat.le_refl,decide_true,Bool.and_true,xab,Option.isSome_some,Option.getD_some]
theorem xq9 {α:Type} (l:List α):l=[]∨∃ m a,l=m++[a]:=by
 rcases List.eq_nil_or_concat l with h|⟨m,a,h⟩
 · exact .inl h
 · exact .inr ⟨m,a,by rw [h,List.concat_eq_append]⟩
theorem xqk (S:List Per) (f n:Int) (hS:S.length≤16777216):∃ p,xbb S.length f n (S.map encP)=some p∧br p.1 p.2.1.1 p.2.2.1=(putS S f n).length∧br p.1 p.2.1.2 p.2.2.2=(putS S f n).map encP:=by
 have m1:(S.length+1)*16≤140737488355328:=by omega
 have m2:S.length+1≤4611686018427387904:=by omega
 rcases xq9 S with rfl|⟨S',s,rfl⟩
 · refine ⟨(false,(0,[]),(1,[encP (f,n)])),?_,rfl,rfl⟩
   unfold xbb xer
   simp [xkj,encP]
 · have hk:IntKind.i64.wrap (((S'++[s]).length:Int) - 1)=((S'.length:Nat):Int):=by
    rw [List.length_append,xfh (by simp<;>omega) (by simp at hS ⊢<;>omega)];simp
   have g1:((S'++[s]).length:Int)>0:=by simp<;>omega
   have g2:(S'.length:Int)<((S'++[s]).length:Int):=by simp<;>omega
   have g3:S'.length<(S'++[s]).length:=by simp
   have gf:((S'++[s]).map encP).getD S'.length .top=encP s:=by
    rw [xaG _ _ _ (by simp)];simp
   have hl:(S'++[s]).getLast?=some s:=by simp
   by_cases he:s.2=n
   · refine ⟨(true,((S'++[s]).length,(S'++[s]).map encP),(0,[])),?_,?_,?_⟩
     · unfold xbb xer
       simp only [hk,g1,g2,g3,gf,List.length_map,xab,xac,decide_true,decide_false,Bool.and_true,Bool.true_and,Bool.not_true,Bool.not_false,Int.toNat_natCast,Int.natCast_nonneg,Option.isSome_some,Option.getD_some,beq_self_eq_true,Nat.zero_add,Nat.sub_zero,cP0,cP1,lP,sP,sP0,sP1,he]
     · simp only [xab,putS,hl,if_pos he]
     · simp only [xab,putS,hl,if_pos he]
   · have he':(s.2==n)=false:=by simp [he]
     refine ⟨(false,(0,[]),((S'++[s]).length+1,(S'++[s]).map encP++[encP (f,n)])),?_,?_,?_⟩
     · unfold xbb xer
       simp only [hk,g1,g2,g3,gf,List.length_map,xab,xac,decide_true,decide_false,Bool.and_true,Bool.true_and,Bool.not_true,Bool.not_false,Int.toNat_natCast,Int.natCast_nonneg,Option.isSome_some,Option.getD_some,beq_self_eq_true,Nat.zero_add,Nat.sub_zero,cP0,cP1,lP,sP,sP0,sP1,he',m1,m2]
       rfl
     · simp only [xac,putS,hl,if_neg he];simp
     · simp only [xac,putS,hl,if_neg he];simp
def ptsC (l:List Cnt):List Int:=l.foldl (fun P c=>if pv c.1=true then insI (insI P c.1.1) c.1.2 else P) [0]
theorem xo8 (l:List Cnt) (c:Cnt):ptsC (l++[c])=if pv c.1=true then insI (insI (ptsC l) c.1.1) c.1.2 else ptsC l:=by simp [ptsC]
theorem xo9:∀ l:List Cnt,Asc (ptsC l.reverse)∧∀ x,x∈ptsC l.reverse↔x=0∨∃ c,c∈l∧pv c.1=true∧(x=c.1.1∨x=c.1.2)
 | []=>by simp [ptsC,Asc]
 | c::l=>by
  obtain ⟨h1,h2⟩:=xo9 l
  rw [List.reverse_cons,xo8]
  split
  · rename_i hv
    refine ⟨xlk (xlk h1 _) _,fun x=>?_⟩
    rw [xiD,xiD,h2]
    constructor
    · rintro (h|h|h|⟨c',a,b,d⟩)
      · exact .inr ⟨c,by simp,hv,.inr h⟩
      · exact .inr ⟨c,by simp,hv,.inl h⟩
      · exact .inl h
      · exact .inr ⟨c',by simp [a],b,d⟩
    · rintro (h|⟨c',a,b,d⟩)
      · exact .inr (.inr (.inl h))
      · rcases List.mem_cons.1 a with rfl|a
        · rcases d with d|d
          · exact .inr (.inl d)
          · exact .inl d
        · exact .inr (.inr (.inr ⟨c',a,b,d⟩))
  · rename_i hv
    refine ⟨h1,fun x=>?_⟩
    rw [h2]
    constructor
    · rintro (h|⟨c',a,b,d⟩)
      · exact .inl h
      · exact .inr ⟨c',by simp [a],b,d⟩
    · rintro (h|⟨c',a,b,d⟩)
      · exact .inl h
      · rcases List.mem_cons.1 a with rfl|a
        · exact absurd b hv
        · exact .inr ⟨c',a,b,d⟩
theorem xtA (l:List Cnt):Asc (ptsC l)∧∀ x,x∈ptsC l↔x=0∨∃ c,c∈l∧pv c.1=true∧(x=c.1.1∨x=c.1.2):=by
 have:=xo9 l.reverse
 simpa using this
theorem xtK (l:List Cnt) (hl:l.length≤262144):Iter (xaN (l.map encC)) ([AV.int IntKind.i64 (0:Int)],(0:Int))=some ((ptsC l).map encN)∧(ptsC l).length≤2*l.length+1:=by
 have hlen:∀ l:List Cnt,(ptsC l.reverse).length≤2*l.length+1:=fun l=>by
  induction l with
  | nil=>simp [ptsC]
  | cons c l ih =>
   rw [List.reverse_cons,xo8]
   have a1:=xgN (ptsC l.reverse) c.1.1
   have a2:=xgN (insI (ptsC l.reverse) c.1.1) c.1.2
   split<;>simp<;>omega
 refine ⟨?_,by have:=hlen l.reverse;simpa using this⟩
 refine xnO l (fun P c=>if pv c.1=true then insI (insI P c.1.1) c.1.2 else P) (fun n b=>(b.map encN,(n:Int))) (fun n b=>b.length≤2*n+1) (fun n h b hb=>?_) l.length 0 [0] (by omega) (by simp) ?_
 · have h1:(n:Int)<(l.length:Int):=by omega
   have gf:(l.map encC).getD n .top=encC l[n]:=xaG _ _ _ h
   have a1:=xgN b l[n].1.1
   have a2:=xgN (insI b l[n].1.1) l[n].1.2
   have i1:=xnM b l[n].1.1 (by omega)
   have i2:=xnM (insI b l[n].1.1) l[n].1.2 (by omega)
   refine ⟨?_,by split<;>omega⟩
   simp only [xaN,xed,xdK,List.length_map,xab,xac,decide_true,decide_false,Bool.and_true,Bool.true_and,Bool.not_true,Bool.not_false,Int.toNat_natCast,Int.natCast_nonneg,Option.isSome_some,Option.getD_some,beq_self_eq_true,Nat.zero_add,Nat.sub_zero,h,h1,gf,cC0,cC1,cC2,lC,sC,sC3,sC2,xf7,i1,i2,wrapS (n:=n) (by omega),sC0,sC1]
   cases pv l[n].1<;>simp [xab,xac]
 · simp only [List.drop_zero]
   simp only [xaN,xed,xdK,List.length_map,Int.lt_irrefl,decide_false,xac]
   rfl
def Tame (l:List Cnt):Prop:=l.length≤262144∧∀ c,c∈l→-1099511627776≤c.2∧c.2≤1099511627776
theorem xtL (l:List Cnt) (hl:Tame l) (P:List Int) (hP:P.length≤1048576) (on k:Nat) (hk:k<P.length) (ox:List AV):Iter (xaP (l.map encC) (P.map encN) on (k:Int)) ((0:Int),(0:Int),ox)=some (sumC l P[k],ox):=by
 have k1:(k:Int)<(P.length:Int):=by omega
 have gk:(P.map encN).getD k .top=encN P[k]:=xaG _ _ _ hk
 have hll:=hl.1
 refine xdF (fun i=>((sumC (l.take i) P[k],(i:Int),ox):Int×Int×List AV)) l.length _ (fun i hi=>?_) ?_ l.length 0 (by omega)
 · have h1:(i:Int)<(l.length:Int):=by omega
   have gf:(l.map encC).getD i .top=encC l[i]:=xaG _ _ _ hi
   have hs:sumC (l.take (i+1)) P[k]=sumC (l.take i) P[k]+if hasP l[i].1 P[k]=true then l[i].2 else 0:=by
    rw [List.take_add_one,List.getElem?_eq_getElem hi,xpY]
    show _+sumC [l[i]] P[k]=_
    rw [xf8,xpm];omega
   have hb:=xpl 1099511627776 (by omega) P[k] (l.take i) fun c hc=>hl.2 c (List.mem_of_mem_take hc)
   have htl:(l.take i).length=i:=by rw [List.length_take];omega
   rw [htl] at hb
   have hc:=hl.2 l[i] (List.getElem_mem hi)
   have hw:hasP l[i].1 P[k]=true→IntKind.i64.wrap (sumC (l.take i) P[k]+l[i].2)=sumC (l.take i) P[k]+l[i].2:=fun _=>xfh (by omega) (by omega)
   simp only [xaP,xee,List.length_map,xab,xac,decide_true,decide_false,Bool.and_true,Bool.true_and,Bool.not_true,Bool.not_false,Int.toNat_natCast,Int.natCast_nonneg,Option.isSome_some,Option.getD_some,beq_self_eq_true,Nat.zero_add,Nat.sub_zero,hi,h1,hk,k1,gf,gk,cC0,cC1,cC2,lC,sC,sC3,sC2,cN,sN,xpb,wrapS (n:=i) (by omega),hs]
   cases hc:hasP l[i].1 P[k] with
   | false=>simp [xac]
   | true=>rw [xab,hw hc];rfl
 · simp only [xaP,xee,List.length_map,Int.lt_irrefl,decide_false,xac,List.take_length]
theorem xtC (l:List Cnt) (hl:Tame l):∃ S,xeN (l.map encC)=some (S.map encP)∧StepI (sumC l) 1099511627776 S∧S.length≤2*l.length+1:=by
 obtain ⟨e0,hPl⟩:=xtK l hl.1
 obtain ⟨hP1,hP2⟩:=xtA l
 generalize hP:ptsC l=P at *
 have hll:=hl.1
 have hrng:∀ x,x∈P→0≤x∧x≤1099511627776:=fun x hx=>by
  rcases (hP2 x).1 hx with rfl|⟨c,_,hv,h⟩
  · omega
  · have:=xbu.1 hv
    rcases h with rfl|rfl<;>omega
 obtain ⟨m,hm,hlt,hend⟩:∃ m,m≤P.length∧(∀ k (h:k<P.length),k<m→P[k]<1099511627776)∧∀ h:m<P.length,¬ P[m]<1099511627776:=by
  obtain ⟨m,a,b,c,_⟩:=xll 1099511627776 P
  exact ⟨m,a,fun k h hk=>b k hk h,c⟩
 let G:Nat→List Per:=fun k=>(P.take k).foldl (fun S p=>putS S p (sumC l p)) []
 have hG:∀ k (h:k<P.length),G (k+1)=putS (G k) P[k] (sumC l P[k]):=fun k h=>by
  simp only [G]
  rw [List.take_add_one,List.getElem?_eq_getElem h,List.foldl_append];rfl
 have hGl:∀ k,k≤P.length→(G k).length≤k:=fun k=>by
  induction k with
  | zero=>intro _;simp [G]
  | succ k ih=>intro h;rw [hG k (by omega)];have:=xpa (G k) P[k] (sumC l P[k]);have:=ih (by omega);omega
 have hP0:0<P.length:=List.length_pos_of_mem ((hP2 0).2 (.inl rfl))
 have hfirst:P[0]=0:=by
  have h0:=(hrng P[0] (List.getElem_mem hP0)).1
  obtain ⟨j,hj,hj0⟩:=List.mem_iff_getElem.1 ((hP2 0).2 (.inl rfl))
  rcases Nat.eq_zero_or_pos j with rfl|hpos
  · exact hj0
  · have:=List.pairwise_iff_getElem.1 hP1 0 j hP0 hj hpos;omega
 have hm0:0<m:=by
  rcases Nat.eq_zero_or_pos m with rfl|h
  · exact absurd (by rw [hfirst];omega) (hend hP0)
  · exact h
 have nb:∀ k (h:k<P.length) T',(∀ h2:k+1<P.length,T'≤P[k+1])→T'≤1099511627776→∀ t,P[k]≤t→t<T'→sumC l t=sumC l P[k]:=fun k h T' hT hF t h1 h2=>by
  have no:∀ x,x∈P→¬ (P[k]<x∧x<T'):=fun x hx ⟨a,b⟩=>by
   obtain ⟨j,hj,rfl⟩:=List.mem_iff_getElem.1 hx
   rcases Nat.lt_trichotomy j k with hjk|rfl|hjk
   · have:=List.pairwise_iff_getElem.1 hP1 j k hj h hjk;omega
   · omega
   · rcases Nat.lt_or_eq_of_le hjk with h3|h3
     · have:=List.pairwise_iff_getElem.1 hP1 (k+1) j (by omega) hj h3
       have:=hT (by omega);omega
     · have h4:j=k+1:=h3.symm
       subst h4
       have:=hT hj;omega
  refine xmQ (T:=P[k]) (T':=T') (fun c hc hv=>⟨no _ ((hP2 _).2 (.inr ⟨c,hc,hv,.inl rfl⟩)),no _ ((hP2 _).2 (.inr ⟨c,hc,hv,.inr rfl⟩))⟩) t h1 h2
 have inv:∀ k (h:k<P.length),k<m→StepI (sumC l) P[k] (G k):=fun k=>by
  induction k with
  | zero=>intro h _;rw [hfirst];exact .nil _
  | succ k ih =>
   intro h hkm
   rw [hG k (by omega)]
   have h1:=List.pairwise_iff_getElem.1 hP1 k (k+1) (by omega) h (by omega)
   have h2:=hlt (k+1) h hkm
   exact (ih (by omega) (by omega)).put (hrng _ (List.getElem_mem (by omega))).1 h1 (nb k (by omega) P[k+1] (fun _=>Int.le_refl _) (by omega))
 have fin:StepI (sumC l) 1099511627776 (G m):=by
  obtain ⟨k,rfl⟩:∃ k,m=k+1:=⟨m - 1,by omega⟩
  rw [hG k (by omega)]
  exact (inv k (by omega) (by omega)).put (hrng _ (List.getElem_mem (by omega))).1 (hlt k (by omega) (by omega)) (nb k (by omega) _ (fun h2=>by have:=hend h2;omega) (Int.le_refl _))
 refine ⟨G m,?_,fin,by have:=hGl m hm;omega⟩
 have e1:Iter (xaO (l.map encC) (P.map encN)) ((0:Nat),(0:Int),[])=some ((G m).length,(G m).map encP):=by
  refine xdF (fun k=>(((G k).length,(k:Int),(G k).map encP):Nat×Int×List AV)) m _ (fun k hk=>?_) ?_ m 0 (by omega)
  · have hkP:k<P.length:=by omega
    have k1:(k:Int)<(P.length:Int):=by omega
    have k2:=hlt k hkP hk
    have gk:(P.map encN).getD k .top=encN P[k]:=xaG _ _ _ hkP
    have e2:=xtL l hl P (by omega) (G k).length k hkP ((G k).map encP)
    have hgk:=hGl k (by omega)
    obtain ⟨p,hp1,hp2,hp3⟩:=xqk (G k) P[k] (sumC l P[k]) (by omega)
    simp only [xaO,xdb,xdL,xdM,xdN,xdO,xdP,xdQ,xdR,List.length_map,xab,xac,decide_true,decide_false,Bool.and_true,Bool.true_and,Bool.not_true,Bool.not_false,Int.toNat_natCast,Int.natCast_nonneg,Option.isSome_some,Option.getD_some,beq_self_eq_true,Nat.zero_add,Nat.sub_zero,hkP,k1,k2,gk,cN,sN,e2,hp1,hp2,hp3,wrapS (n:=k) (by omega),hG k hkP]
  · by_cases hmP:m<P.length
    · have k1:(m:Int)<(P.length:Int):=by omega
      have k2:=hend hmP
      have gk:(P.map encN).getD m .top=encN P[m]:=xaG _ _ _ hmP
      simp only [xaO,xdb,xdL,xdM,xdN,xdO,xdP,xdQ,xdR,List.length_map,xab,xac,decide_true,decide_false,Bool.and_true,Bool.true_and,Bool.not_true,Bool.not_false,Int.toNat_natCast,Int.natCast_nonneg,Option.isSome_some,Option.getD_some,beq_self_eq_true,Nat.zero_add,Nat.sub_zero,hmP,k1,k2,gk,cN,sN]
    · have k1:¬ (m:Int)<(P.length:Int):=by omega
      simp only [xaO,xdb,xdL,xdM,xdN,xdO,xdP,xdQ,xdR,List.length_map,xab,xac,decide_true,decide_false,Bool.and_true,Bool.true_and,Bool.not_true,Bool.not_false,Int.toNat_natCast,Int.natCast_nonneg,Option.isSome_some,Option.getD_some,beq_self_eq_true,Nat.zero_add,Nat.sub_zero,k1]
 unfold xeN xgy
 simp only [xhN,xhO,xhP,xhQ,e0,Option.getD_some,Option.isSome_some,xab,e1,List.drop_zero,List.take_of_length_le,Nat.zero_add,List.length_map,Nat.le_refl,decide_true,Bool.and_true,xab,Option.isSome_some,Option.getD_some]
end Go.Sim.M
end
noncomputable section
set_option maxRecDepth 100000
namespace Go.Sim.M
open Go.RowKit Go.Sim.Srt Go.Sort
def chg (c:Cnt):List Per:=if pv c.1=true then [(c.1.1,c.2),(c.1.2,-c.2)] else []
theorem xp9 {l:List Cnt}:∀ s,s∈l.flatMap chg→0≤s.1∧s.1≤1099511627776:=fun s hs=>by
 obtain ⟨c,hc,h⟩:=List.mem_flatMap.1 hs
 unfold chg at h
 split at h
 · rename_i hv
   have:=xbu.1 hv
   simp only [List.mem_cons,List.not_mem_nil,or_false] at h
   rcases h with rfl|rfl<;>dsimp only<;>omega
 · simp at h
theorem xsR (c:Cnt):(chg c).length≤2:=by unfold chg;split<;>simp
def sumS (S:List Per) (t:Int):Int:=(S.map fun s=>if s.1≤t then s.2 else 0).sum
theorem xla (a b:List Per) (t:Int):sumS (a++b) t=sumS a t+sumS b t:=by simp [sumS]
theorem xsA {a b:List Int} (h:a.Perm b):a.sum=b.sum:=by
 induction h with
 | nil=>rfl
 | cons x _ ih=>simp [ih]
 | swap x y l=>simp;omega
 | trans _ _ h1 h2=>rw [h1,h2]
theorem xr0 {a b:List Per} (h:a.Perm b) (t:Int):sumS a t=sumS b t:=xsA (h.map _)
theorem xpn (t:Int):∀ l:List Cnt,sumS (l.flatMap chg) t=sumC l t
 | []=>rfl
 | c::l=>by
  rw [List.flatMap_cons,xla,xpn t l,xf8]
  congr 1
  unfold chg
  cases hv:pv c.1 with
  | false=>simp [sumS,hasP,hv]
  | true =>
   have:=xbu.1 hv
   simp only [if_true,sumS,List.map_cons,List.map_nil,List.sum_cons,List.sum_nil,hasP,hv,Bool.true_and,Bool.and_eq_true,decide_eq_true_eq]
   by_cases h1:c.1.1≤t<;>by_cases h2:c.1.2≤t
   · rw [if_pos h1,if_pos h2,if_neg (by omega)];omega
   · rw [if_pos h1,if_neg h2,if_pos (by omega)];omega
   · omega
   · rw [if_neg h1,if_neg h2,if_neg (by omega)];omega
theorem sum0:∀ L:List Per,(L.map fun _=>(0:Int)).sum=0
 | []=>rfl
 | _::L=>by rw [List.map_cons,List.sum_cons,sum0 L];rfl
def preS (S:List Per) (i:Nat):Int:=((S.take i).map (·.2)).sum
theorem xnX (S:List Per) (i:Nat) (h:i<S.length):preS S (i+1)=preS S i+S[i].2:=by
 unfold preS
 rw [List.take_add_one,List.getElem?_eq_getElem h,List.map_append,List.sum_append]
 simp
theorem xsp (S:List Per) (i:Nat) (hi:i≤S.length) (t:Int) (h1:∀ k (h:k<S.length),k<i→S[k].1≤t) (h2:∀ k (h:k<S.length),i≤k→t<S[k].1):preS S i=sumS S t:=by
 have e:S=S.take i++S.drop i:=(List.take_append_drop i S).symm
 conv=>rhs;rw [e]
 rw [xla]
 have a1:sumS (S.take i) t=preS S i:=by
  unfold sumS preS
  congr 1
  refine List.map_congr_left fun s hs=>?_
  obtain ⟨k,hk,rfl⟩:=List.mem_iff_getElem.1 hs
  rw [List.length_take] at hk
  rw [List.getElem_take,if_pos (h1 k (by omega) (by omega))]
 have a2:sumS (S.drop i) t=0:=by
  unfold sumS
  have:(S.drop i).map (fun s=>if s.1≤t then s.2 else 0)=(S.drop i).map fun _=>(0:Int):=by
   refine List.map_congr_left fun s hs=>?_
   obtain ⟨k,hk,rfl⟩:=List.mem_iff_getElem.1 hs
   rw [List.length_drop] at hk
   have:=h2 (i+k) (by omega) (by omega)
   rw [List.getElem_drop,if_neg (by omega)]
  rw [this]
  exact sum0 _
 omega
theorem xo7 {B:Int} (hB:0≤B) (S:List Per) (h:∀ s,s∈S→-B≤s.2∧s.2≤B):∀ i,i≤S.length→-(B*i)≤preS S i∧preS S i≤B*i
 | 0,_=>by simp [preS]
 | i+1,hi=>by
  have ih:=xo7 hB S h i (by omega)
  have hs:=h S[i] (List.getElem_mem (by omega))
  rw [xnX S i (by omega),show B*((i+1:Nat):Int)=B*(i:Int)+B by rw [Int.natCast_add,Int.mul_add];simp]
  omega
def toS (e:Per):TyS:=(Fin.ofNat 1099511627777 e.1.toNat,e.2)
def ofS (x:TyS):Per:=((x.1.val:Int),x.2)
theorem xs1 {e:Per} (h1:0≤e.1) (h2:e.1≤1099511627776):ofS (toS e)=e:=by
 have:e.1.toNat % 1099511627777=e.1.toNat:=Nat.mod_eq_of_lt (by omega)
 simp only [ofS,toS,Fin.ofNat,this,Int.toNat_of_nonneg h1]
theorem xte (E:List Per) (h:∀ e,e∈E→0≤e.1∧e.1≤1099511627776):(E.map encP).all isS=true∧∃ S:List Per,srtS (E.map encP)=S.map encP∧S.Perm E∧S.Pairwise fun x y=>x.1≤y.1:=by
 refine ⟨?_,(pdqL cmpS (E.map toS)).map ofS,?_,?_,?_⟩
 · rw [List.all_eq_true]
   intro x hx
   obtain ⟨e,he,rfl⟩:=List.mem_map.1 hx
   have:=h e he
   show (decide _&&decide _)=true
   rw [decide_eq_true this.1,decide_eq_true this.2];rfl
 · unfold srtS
   have e1:(E.map encP).map decS=E.map toS:=by rw [List.map_map];rfl
   rw [e1,List.map_map];rfl
 · have hp:=((xhm cmpS swoS (E.map toS)).1).map ofS
   have e2:(E.map toS).map ofS=E:=by
    rw [List.map_map]
    conv=>rhs;rw [←List.map_id E]
    refine List.map_congr_left fun e he=>?_
    exact xs1 (h e he).1 (h e he).2
   rwa [e2] at hp
 · rw [List.pairwise_map]
   refine (xpJ cmpS swoS (E.map toS)).imp fun {x y} hxy=>?_
   show ((x.1.val:Nat):Int)≤((y.1.val:Nat):Int)
   unfold cmpS at hxy
   omega
theorem xsX (n o:Nat):xbv n o=xaF n o 0:=rfl
theorem xlQ (l:List Cnt) (hl:l.length≤1048576) (ht:∀ c,c∈l→-1099511627776≤c.2∧c.2≤1099511627776):Iter (xaQ (l.map encC) ((l.length:Nat):Int)) ((0:Nat),(0:Int),[])=some ((l.flatMap (fun (f:Cnt)=>chg f)).length,(l.flatMap (fun (f:Cnt)=>chg f)).map encP):=by
 refine xlm l (fun (f:Cnt)=>chg f) encP 2 (fun f hf=>?_) (fun n h D hD=>?_) (fun D=>?_)
 · cases hc0:(pv (f).1)<;>simp [chg,hc0]
 · have h1:(n:Int)<(l.length:Int):=by omega
   have m1:(D.length+2)*16≤140737488355328:=by omega
   have m2:D.length+2≤4611686018427387904:=by omega
   have gf:(l.map encC).getD n .top=encC l[n]:=xaG _ _ _ h
   have hm:=ht l[n] (List.getElem_mem h)
   have hw:IntKind.i64.wrap (0 - l[n].2)=-l[n].2:=by rw [xfh (by omega) (by omega)];omega
   simp only [xaQ,xej,List.length_map,xab,xac,decide_true,decide_false,Bool.and_true,Bool.true_and,Bool.not_true,Bool.not_false,Int.toNat_natCast,Int.natCast_nonneg,Option.isSome_some,Option.getD_some,beq_self_eq_true,Nat.zero_add,Nat.sub_zero,h,h1,gf,cC0,cC1,cC2,lC,sC,sC3,sC2,xjR,hw,m1,m2,wrapS (n:=n) (by omega)]
   cases hc0:(pv (l[n]).1)<;>simp [encP,xab,xac,encR,chg,hc0]
 · simp only [xaQ,xej,List.length_map,Int.lt_irrefl,decide_false,xac]
theorem xlj (S:List Per) (hS:S.length≤1048576) (hb:∀ s,s∈S→-1099511627776≤s.2∧s.2≤1099511627776) (on:Nat) (at':Int) (ox:List AV):∀ (d i:Nat),i+d=S.length→∃ j:Nat,i≤j∧j≤S.length∧(∀ k (h:k<S.length),i≤k→k<j→S[k].1=at')∧(∀ h:j<S.length,S[j].1≠at') ∧
  Iter (xaF S.length on at') (preS S i,(i:Int),S.map encP,ox)=some (preS S j,(j:Int),S.map encP,ox)
 | 0,i,h=>by
  refine ⟨i,Nat.le_refl _,by omega,fun k _ h1 h2=>by omega,fun h=>by omega,xc0 ?_⟩
  have i1:¬ (i:Int)<(S.length:Int):=by omega
  simp only [xaF,xdk,xd6,i1,decide_false,xac]
 | d+1,i,h=>by
  have hi:i<S.length:=by omega
  have i1:(i:Int)<(S.length:Int):=by omega
  have gf:(S.map encP).getD i .top=encP S[i]:=xaG _ _ _ hi
  by_cases he:S[i].1=at'
  · obtain ⟨j,h1,h2,h3,h4,h5⟩:=xlj S hS hb on at' ox d (i+1) (by omega)
    refine ⟨j,by omega,h2,fun k hk a b=>?_,h4,?_⟩
    · rcases Nat.lt_or_eq_of_le a with a|a
      · exact h3 k hk a b
      · subst a;exact he
    · have hp:=xo7 (B:=1099511627776) (by omega) S hb i (by omega)
      have hs:=hb S[i] (List.getElem_mem hi)
      rw [xeI (s':=(preS S (i+1),((i+1:Nat):Int),S.map encP,ox)) ?_,h5]
      simp only [xaF,xdk,xd6,List.length_map,xab,xac,decide_true,decide_false,Bool.and_true,Bool.true_and,Bool.not_true,Bool.not_false,Int.toNat_natCast,Int.natCast_nonneg,Option.isSome_some,Option.getD_some,beq_self_eq_true,Nat.zero_add,Nat.sub_zero,hi,i1,gf,cP0,cP1,lP,sP,sP0,sP1,he,wrapS (n:=i) (by omega),xnX S i hi]
      rw [xfh (by omega) (by omega)]
  · have he':(S[i].1==at')=false:=by simp [he]
    refine ⟨i,Nat.le_refl _,by omega,fun k _ h1 h2=>by omega,fun _=>he,xc0 ?_⟩
    simp only [xaF,xdk,xd6,List.length_map,xab,xac,decide_true,decide_false,Bool.and_true,Bool.true_and,Bool.not_true,Bool.not_false,Int.toNat_natCast,Int.natCast_nonneg,Option.isSome_some,Option.getD_some,beq_self_eq_true,Nat.zero_add,Nat.sub_zero,hi,i1,gf,cP0,cP1,lP,sP,sP0,sP1,he']
theorem xiF (l:List Cnt) (hl:Tame l):∃ S,xeR (l.map encC)=some (S.map encP)∧StepI (sumC l) 1099511627776 S∧S.length≤2*l.length+1:=by
 have hll:=hl.1
 have e0:=xlQ l (by omega) hl.2
 have hE:=xlh (g:=chg) (c:=2) l fun c _=>xsR c
 obtain ⟨hall,S,hS,hp,hso⟩:=xte (l.flatMap chg) xp9
 have hSl:S.length=(l.flatMap chg).length:=hp.length_eq
 have hrng:∀ s,s∈S→0≤s.1∧s.1≤1099511627776:=fun s hs=>xp9 s (hp.mem_iff.1 hs)
 have hb:∀ s,s∈S→-1099511627776≤s.2∧s.2≤1099511627776:=fun s hs=>by
  obtain ⟨c,hc,h⟩:=List.mem_flatMap.1 (hp.mem_iff.1 hs)
  have:=hl.2 c hc
  unfold chg at h
  split at h
  · simp only [List.mem_cons,List.not_mem_nil,or_false] at h
    rcases h with rfl|rfl<;>dsimp only<;>omega
  · simp at h
 have hN:∀ t,sumS S t=sumC l t:=fun t=>by rw [xr0 hp,xpn]
 have hle:∀ a b (ha:a<S.length) (hb:b<S.length),a≤b→S[a].1≤S[b].1:=fun a b ha hb hab=>by
  rcases Nat.lt_or_eq_of_le hab with h|h
  · exact List.pairwise_iff_getElem.1 hso a b ha hb h
  · subst h;exact Int.le_refl _
 let T:Nat→Int:=fun i=>if h:i<S.length then S[i].1 else 1099511627776
 have step:∀ (out:List Per) (i j:Nat) (at':Int),0≤at'→i≤j→j≤S.length→StepI (sumC l) at' out→at'<1099511627776→(∀ k (h:k<S.length),k<i→S[k].1≤at')→(∀ k (h:k<S.length),i≤k→at'≤S[k].1)→(∀ k (h:k<S.length),i≤k→k<j→S[k].1=at')→(∀ h:j<S.length,S[j].1≠at') →
   preS S j=sumC l at'∧StepI (sumC l) (T j) (putS out at' (preS S j))∧at'<T j∧∀ k (h:k<S.length),k<j→S[k].1≤at':=fun out i j at' h0 hij hj hout hF hbef haft heq hne=>by
  have a1:∀ k (h:k<S.length),k<j→S[k].1≤at':=fun k h hk=>by
   rcases Nat.lt_or_ge k i with h1|h1
   · exact hbef k h h1
   · rw [heq k h h1 hk];exact Int.le_refl _
  have a2:∀ k (h:k<S.length),j≤k→at'<S[k].1:=fun k h hk=>by
   have hjl:j<S.length:=by omega
   have b1:=haft j hjl hij
   have b2:=hne hjl
   have b3:=hle j k hjl h hk
   omega
  have hT:at'<T j:=by
   simp only [T]
   split
   · rename_i h;exact a2 j h (Nat.le_refl _)
   · exact hF
  have hpre:∀ t,at'≤t→t<T j→preS S j=sumC l t:=fun t h1 h2=>by
   rw [←hN]
   refine xsp S j hj t (fun k h hk=>by have:=a1 k h hk;omega) fun k h hk=>?_
   have hjl:j<S.length:=by omega
   have b3:=hle j k hjl h hk
   simp only [T,dif_pos hjl] at h2
   omega
  have e:=hpre at' (Int.le_refl _) hT
  refine ⟨e,?_,hT,a1⟩
  rw [e]
  exact hout.put h0 hT fun t h1 h2=>by rw [←hpre t h1 h2,e]
 have hput:∀ (out:List Per) (f n:Int),out.length≤2*l.length+1→∃ p,xbj out.length f n (out.map encP)=some p∧br p.1 p.2.1.1 p.2.2.1=(putS out f n).length∧br p.1 p.2.1.2 p.2.2.2=(putS out f n).map encP:=fun out f n h=>xqk out f n (by omega)
 obtain ⟨j0,_,hj0,h3,h4,e1⟩:=xlj S (by omega) hb 0 0 ([]:List AV) S.length 0 (by omega)
 obtain ⟨_,st0,_,bef0⟩:=step [] 0 j0 0 (Int.le_refl _) (Nat.zero_le _) hj0 (.nil _) (by omega) (fun k _ h=>by omega) (fun k h _=>(hrng _ (List.getElem_mem h)).1) h3 h4
 obtain ⟨p0,hp1,hp2,hp3⟩:=hput [] 0 (preS S j0) (by simp)
 have o0:putS [] 0 (preS S j0)=[(0,preS S j0)]:=rfl
 obtain ⟨r,hr,out,rfl,hout,hlen⟩:=xsj (step:=xaR S.length)
  (fun s=>∃ (out:List Per) (i:Nat),s=(out.length,preS S i,(i:Int),S.map encP,out.map encP)∧i≤S.length∧StepI (sumC l) (T i) out∧out.length≤i+1∧∀ k (h:k<S.length) (hi:i<S.length),k<i→S[k].1≤S[i].1) (fun s=>(S.length - s.2.2.1.toNat)) (fun r=>∃ out:List Per,r=(out.length,out.map encP)∧StepI (sumC l) 1099511627776 out∧out.length≤2*l.length+1)
  (by
   rintro _ ⟨out,i,rfl,hi,hst,hol,hbef⟩
   by_cases hil:i<S.length
   · have i1:(i:Int)<(S.length:Int):=by omega
     have gf:(S.map encP).getD i .top=encP S[i]:=xaG _ _ _ hil
     have hTi:T i=S[i].1:=dif_pos hil
     by_cases hF:S[i].1<1099511627776
     · left
       obtain ⟨j,a1,a2,a3,a4,a5⟩:=xlj S (by omega) hb out.length S[i].1 (out.map encP) (S.length - i) i (by omega)
       rw [hTi] at hst
       obtain ⟨b1,b2,b3,b4⟩:=step out i j S[i].1 (hrng _ (List.getElem_mem hil)).1 a1 a2 hst hF (fun k h hk=>hle k i h hil (by omega)) (fun k h hk=>hle i k hil h hk) a3 a4
       have hij:i<j:=by
        rcases Nat.lt_or_eq_of_le a1 with h|h
        · exact h
        · subst h;exact absurd rfl (a4 hil)
       obtain ⟨p,hp1,hp2,hp3⟩:=hput out S[i].1 (preS S j) (by omega)
       have hpl:=xpa out S[i].1 (preS S j)
       refine ⟨((putS out S[i].1 (preS S j)).length,preS S j,(j:Int),S.map encP,(putS out S[i].1 (preS S j)).map encP),?_,⟨_,j,rfl,a2,b2,by omega,fun k h hj hk=>hle k j h hj (by omega)⟩,by dsimp only;rw [Int.toNat_natCast,Int.toNat_natCast];omega⟩
       simp only [xaR,xdi,xdX,xdY,xdZ,xdx,xd0,xd1,xd2,xd3,xd4,xd5,xdD,xdE,xcK,List.length_map,xab,xac,decide_true,decide_false,Bool.and_true,Bool.true_and,Bool.not_true,Bool.not_false,Int.toNat_natCast,Int.natCast_nonneg,Option.isSome_some,Option.getD_some,beq_self_eq_true,Nat.zero_add,Nat.sub_zero,hil,i1,gf,cP0,cP1,lP,sP,sP0,sP1,hF,a5,hp1,hp2,hp3]
     · right
       have hFe:S[i].1=1099511627776:=by have:=(hrng _ (List.getElem_mem hil)).2;omega
       refine ⟨(out.length,out.map encP),?_,out,rfl,by rw [←hFe,←hTi];exact hst,by omega⟩
       simp only [xaR,xdi,xdX,xdY,xdZ,xdx,xd0,xd1,xd2,xd3,xd4,xd5,xdD,xdE,xcK,List.length_map,xab,xac,decide_true,decide_false,Bool.and_true,Bool.true_and,Bool.not_true,Bool.not_false,Int.toNat_natCast,Int.natCast_nonneg,Option.isSome_some,Option.getD_some,beq_self_eq_true,Nat.zero_add,Nat.sub_zero,hil,i1,gf,cP0,cP1,lP,sP,sP0,sP1,hF]
   · right
     have i1:¬ (i:Int)<(S.length:Int):=by omega
     have hTi:T i=1099511627776:=dif_neg hil
     refine ⟨(out.length,out.map encP),?_,out,rfl,by rw [←hTi];exact hst,by omega⟩
     simp only [xaR,xdi,xdX,xdY,xdZ,xdx,xd0,xd1,xd2,xd3,xd4,xd5,xdD,xdE,xcK,List.length_map,xab,xac,decide_true,decide_false,Bool.and_true,Bool.true_and,Bool.not_true,Bool.not_false,Int.toNat_natCast,Int.natCast_nonneg,Option.isSome_some,Option.getD_some,beq_self_eq_true,Nat.zero_add,Nat.sub_zero,i1])
  (([(0,preS S j0)]:List Per).length,preS S j0,(j0:Int),S.map encP,([(0,preS S j0)]:List Per).map encP) ⟨[(0,preS S j0)],j0,rfl,hj0,st0,by simp,fun k h hj hk=>hle k j0 h hj (by omega)⟩
 refine ⟨out,?_,hout,hlen⟩
 have d1:(l.flatMap chg).length<4611686018427387904:=by omega
 have d2:((l.flatMap chg).length).beq (l.flatMap chg).length=true:=Nat.beq_refl _
 have e1':Iter (xbv (l.flatMap chg).length 0) ((0:Int),(0:Int),S.map encP,[])=some (preS S j0,(j0:Int),S.map encP,[]):=by
  rw [xsX,←hSl];exact e1
 rw [hSl] at hr
 unfold xeR xgA
 have hp1':xbj 0 0 (preS S j0) []=some p0:=hp1
 rw [o0] at hp2 hp3
 simp only [xhV,xhW,xhX,xhY,xhZ,xhx,xh0,xh1,xh2,xh3,xg4,xg5,xg6,xg7,xg8,xeS,xfA,xg9,List.length_map,e0,Option.getD_some,Option.isSome_some,xab,hall,hS,d1,d2,e1',hp1',hp2,hp3,hr,decide_true,Bool.and_true,List.drop_zero,List.take_of_length_le,Nat.zero_add,List.length_map,Nat.le_refl,decide_true,Bool.and_true,xab,Option.isSome_some,Option.getD_some]
end Go.Sim.M
end
noncomputable section
namespace Go.Sim.M
open Go.RowKit Go.Sim.Srt
def setF (s:List Int×List Per) (q:Int×Nat):List Int×List Per:=(s.1.take q.2++List.replicate (q.2 - s.1.length) q.1,s.2++((s.1.drop q.2).reverse.map fun f=>(f,q.1)))
theorem xkT {α β:Type} (A B:α→List β):∀ l:List α,(l.flatMap fun k=>A k++B k).Perm (l.flatMap A++l.flatMap B)
 | []=>List.Perm.refl _
 | a::l=>by
  rw [List.flatMap_cons,List.flatMap_cons,List.flatMap_cons]
  have ih:=xkT A B l
  refine (ih.append_left (A a++B a)).trans ?_
  rw [List.append_assoc,List.append_assoc]
  refine List.Perm.append_left _ ?_
  rw [←List.append_assoc,←List.append_assoc]
  exact List.Perm.append_right _ List.perm_append_comm
theorem xmr {β:Type} (g:Int→β):∀ (F:List Int) (H n:Nat),F.length≤H→(List.range H).flatMap (fun k=>if n≤k then (F[k]?).toList.map g else [])=(F.drop n).map g
 | [],H,n,_=>by
  rw [List.drop_nil,List.map_nil,List.flatMap_eq_nil_iff]
  intro k _
  split<;>simp
 | x::F,0,n,h=>by simp at h
 | x::F,H+1,n,h=>by
  rw [List.range_succ_eq_map,List.flatMap_cons,List.flatMap_map]
  have ih:=xmr g F H (n - 1) (by simpa using h)
  have e:(List.range H).flatMap (fun a=>if n≤a.succ then (((x::F)[a.succ]?).toList).map g else [])=(F.drop (n - 1)).map g:=by
   rw [←ih]
   congr 1
   funext a
   have:(n≤a.succ)=(n - 1≤a):=by rw [eq_iff_iff];omega
   simp only [this,List.getElem?_cons_succ,Nat.succ_eq_add_one]
  rw [e]
  cases n with
  | zero=>simp
  | succ n=>simp
structure LvI (N:Int→Nat) (H:Nat) (at':Int) (F:List Int) (out:List Per) (A:Nat→List Per):Prop where
 perm:out.Perm ((List.range H).flatMap A)
 span:∀ k,IsSpan (A k)
 low:∀ k (h:k<F.length),F[k]≤at'∧0≤F[k]∧∀ p,p∈A k→p.2<F[k]
 high:∀ k,F.length≤k→∀ p,p∈A k→p.2≤at'
 cov:∀ k t,t≤at'→((inL (A k) t=true∨∃ h:k<F.length,F[k]≤t)↔k<N t)
 len:F.length=N at'
 top:F.length≤H
theorem LvI.set {N:Int→Nat} {H:Nat} {a b:Int} {F:List Int} {out:List Per} {A:Nat→List Per} (h:LvI N H a F out A) (hab:a<b) (h0:0≤b) (hb:b≤1099511627776) (hc:∀ t,a≤t→t<b→N t=N a) (hH:N b≤H) :
  ∃ A',LvI N H b (setF (F,out) (b,N b)).1 (setF (F,out) (b,N b)).2 A':=by
 have hl:=h.len
 refine ⟨fun k=>A k++(if N b≤k then (F[k]?).toList.map (fun f=>(f,b)) else []),?_,?_,?_,?_,?_,?_,?_⟩
 · refine (List.Perm.append h.perm ?_).trans (xkT A _ _).symm
   rw [xmr (fun f=>(f,b)) F H (N b) h.top]
   exact (List.reverse_perm _).map _
 · intro k
   by_cases hk:N b≤k
   · rw [if_pos hk]
     by_cases hkF:k<F.length
     · obtain ⟨l1,l2,l3⟩:=h.low k hkF
       rw [List.getElem?_eq_getElem hkF]
       refine ⟨fun p hp=>?_,List.pairwise_append.2 ⟨(h.span k).2,by simp,fun p hp q hq=>?_⟩⟩
       · rcases List.mem_append.1 hp with hp|hp
         · exact (h.span k).1 p hp
         · simp at hp;subst hp;exact xbu.2 ⟨l2,by dsimp only;omega,hb⟩
       · simp at hq;subst hq;exact l3 p hp
     · rw [List.getElem?_eq_none (by omega)];simpa using h.span k
   · rw [if_neg hk,List.append_nil];exact h.span k
 · intro k hk
   simp only [setF] at hk ⊢
   rw [List.length_append,List.length_take,List.length_replicate] at hk
   have hkn:¬ N b≤k:=by omega
   simp only [hkn,if_false,List.append_nil]
   by_cases hkF:k<F.length
   · rw [List.getElem_append_left (by rw [List.length_take];omega),List.getElem_take]
     obtain ⟨l1,l2,l3⟩:=h.low k hkF
     exact ⟨by omega,l2,l3⟩
   · rw [List.getElem_append_right (by rw [List.length_take];omega),List.getElem_replicate]
     exact ⟨Int.le_refl _,h0,fun p hp=>by have:=h.high k (by omega) p hp;omega⟩
 · intro k hk p hp
   simp only [setF] at hk
   rw [List.length_append,List.length_take,List.length_replicate] at hk
   have hkn:N b≤k:=by omega
   simp only [hkn,if_true] at hp
   by_cases hkF:k<F.length
   · rw [List.getElem?_eq_getElem hkF] at hp
     rcases List.mem_append.1 hp with hp|hp
     · obtain ⟨l1,l2,l3⟩:=h.low k hkF
       have:=l3 p hp;omega
     · simp at hp;subst hp;exact Int.le_refl _
   · rw [List.getElem?_eq_none (by omega)] at hp
     simp at hp
     have:=h.high k (by omega) p hp;omega
 · intro k t ht
   have hF1:(setF (F,out) (b,N b)).1=F.take (N b)++List.replicate (N b - F.length) b:=rfl
   have key:(∃ hh:k<(setF (F,out) (b,N b)).1.length,(setF (F,out) (b,N b)).1[k]≤t)↔(k<N b∧((∃ hh:k<F.length,F[k]≤t)∨(F.length≤k∧b≤t))):=by
    constructor
    · rintro ⟨hh,hle⟩
      have hh':=hh
      rw [hF1,List.length_append,List.length_take,List.length_replicate] at hh'
      refine ⟨by omega,?_⟩
      by_cases hkF:k<F.length
      · refine .inl ⟨hkF,?_⟩
        have e:(setF (F,out) (b,N b)).1[k]=F[k]:=by
         simp only [hF1]
         rw [List.getElem_append_left (by rw [List.length_take];omega),List.getElem_take]
        rw [←e];exact hle
      · refine .inr ⟨by omega,?_⟩
        have e:(setF (F,out) (b,N b)).1[k]=b:=by
         simp only [hF1]
         rw [List.getElem_append_right (by rw [List.length_take];omega),List.getElem_replicate]
        rw [←e];exact hle
    · rintro ⟨h1,h2⟩
      have hh:k<(setF (F,out) (b,N b)).1.length:=by rw [hF1,List.length_append,List.length_take,List.length_replicate];omega
      refine ⟨hh,?_⟩
      rcases h2 with ⟨hkF,hle⟩|⟨hkF,hle⟩
      · have e:(setF (F,out) (b,N b)).1[k]=F[k]:=by
         simp only [hF1]
         rw [List.getElem_append_left (by rw [List.length_take];omega),List.getElem_take]
        rw [e];exact hle
      · have e:(setF (F,out) (b,N b)).1[k]=b:=by
         simp only [hF1]
         rw [List.getElem_append_right (by rw [List.length_take];omega),List.getElem_replicate]
        rw [e];exact hle
   rw [key]
   have key2:inL (A k++(if N b≤k then (F[k]?).toList.map (fun f=>(f,b)) else [])) t=true↔inL (A k) t=true∨(N b≤k∧(∃ hh:k<F.length,F[k]≤t)∧t<b):=by
    rw [xfp,Bool.or_eq_true]
    refine or_congr Iff.rfl ?_
    by_cases hkn:N b≤k
    · rw [if_pos hkn]
      by_cases hkF:k<F.length
      · obtain ⟨l1,l2,l3⟩:=h.low k hkF
        rw [List.getElem?_eq_getElem hkF]
        have e:inL ((some F[k]).toList.map fun f=>(f,b)) t=hasP (F[k],b) t:=by simp [inL]
        rw [e,xbH,xbu]
        dsimp only
        constructor
        · rintro ⟨_,h2,h3⟩;exact ⟨hkn,⟨hkF,h2⟩,h3⟩
        · rintro ⟨_,⟨_,h2⟩,h3⟩;exact ⟨⟨l2,by omega,hb⟩,h2,h3⟩
      · rw [List.getElem?_eq_none (by omega)]
        simp only [Option.toList_none,List.map_nil,xie,Bool.false_eq_true,false_iff]
        rintro ⟨_,⟨hh,_⟩,_⟩;omega
    · rw [if_neg hkn,xie]
      simp only [Bool.false_eq_true,false_iff]
      rintro ⟨hh,_⟩;omega
   rw [key2]
   by_cases hta:t≤a
   · have hcov:=h.cov k t hta
     rw [←hcov]
     constructor
     · rintro ((h1|⟨_,h2,_⟩)|⟨_,h2|⟨_,h3⟩⟩)
       · exact .inl h1
       · exact .inr h2
       · exact .inr h2
       · omega
     · rintro (h1|h2)
       · exact .inl (.inl h1)
       · by_cases hkn:N b≤k
         · exact .inl (.inr ⟨hkn,h2,by omega⟩)
         · exact .inr ⟨by omega,.inl h2⟩
   · have hin:inL (A k) t=true→False:=fun hi=>by
      obtain ⟨p,hp,_,p1,p2⟩:=xc7.1 hi
      by_cases hkF:k<F.length
      · obtain ⟨l1,l2,l3⟩:=h.low k hkF
        have:=l3 p hp;omega
      · have:=h.high k (by omega) p hp;omega
     have hex:(∃ hh:k<F.length,F[k]≤t)↔k<F.length:=⟨fun ⟨hh,_⟩=>hh,fun hh=>⟨hh,by have:=(h.low k hh).1;omega⟩⟩
     rw [hex]
     by_cases htb:t<b
     · rw [hc t (by omega) htb,←hl]
       constructor
       · rintro ((h1|⟨_,h2,_⟩)|⟨_,h2|⟨_,h3⟩⟩)
         · exact (hin h1).elim
         · exact h2
         · exact h2
         · omega
       · intro hkF
         by_cases hkn:N b≤k
         · exact .inl (.inr ⟨hkn,hkF,htb⟩)
         · exact .inr ⟨by omega,.inl hkF⟩
     · obtain rfl:t=b:=by omega
       constructor
       · rintro ((h1|⟨_,_,h2⟩)|⟨h1,_⟩)
         · exact (hin h1).elim
         · omega
         · exact h1
       · intro hk
         refine .inr ⟨hk,?_⟩
         by_cases hkF:k<F.length
         · exact .inl hkF
         · exact .inr ⟨by omega,Int.le_refl _⟩
 · show (F.take (N b)++List.replicate (N b - F.length) b).length=N b
   rw [List.length_append,List.length_take,List.length_replicate];omega
 · show (F.take (N b)++List.replicate (N b - F.length) b).length≤H
   rw [List.length_append,List.length_take,List.length_replicate];omega
end Go.Sim.M
end
noncomputable section
namespace Go.Sim.M
open Go.RowKit Go.Sim.Srt
def pos (S:List Per) (i:Nat):Int:=match S[i]? with
 | some s=>s.1
 | none=>1099511627776
theorem xty {S:List Per} {i:Nat} (h:i<S.length):pos S i=S[i].1:=by unfold pos;rw [List.getElem?_eq_getElem h]
theorem xjQ {S:List Per} {i:Nat} (h:S.length≤i):pos S i=1099511627776:=by unfold pos;rw [List.getElem?_eq_none h]
end Go.Sim.M
end
noncomputable section
namespace Go.Sim.M
open Go.RowKit Go.Sim.Srt
structure VS (S:List Per):Prop where
 ne:0<S.length
 zero:pos S 0=0
 step:∀ i,i<S.length→pos S i<pos S (i+1)∧pos S (i+1)≤1099511627776
theorem VS.mono {S:List Per} (h:VS S):∀ d i,i+d≤S.length→pos S i≤pos S (i+d)
 | 0,i,_=>Int.le_refl _
 | d+1,i,hi=>by
  have a:=h.mono d i (by omega)
  have b:=h.step (i+d) (by omega)
  have e:i+(d+1)=i+d+1:=by omega
  rw [e];omega
theorem VS.le {S:List Per} (h:VS S) {i k:Nat} (hik:i≤k) (hk:k≤S.length):pos S i≤pos S k:=by
 have:=h.mono (k - i) i (by omega)
 rwa [show i+(k - i)=k by omega] at this
theorem VS.nonneg {S:List Per} (h:VS S) {i:Nat} (hi:i≤S.length):0≤pos S i:=by
 have:=h.le (Nat.zero_le i) hi
 rw [h.zero] at this;exact this
theorem VS.pv {S:List Per} (h:VS S) {k:Nat} (hk:k<S.length):pv (pos S k,pos S (k+1))=true:=by
 have a:=h.step k hk
 have b:=h.nonneg (i:=k) (by omega)
 exact xbu.2 ⟨b,a.1,a.2⟩
theorem VS.find {S:List Per} (h:VS S) {t:Int} (h0:0≤t) (h1:t<1099511627776):∃ k,k<S.length∧pos S k≤t∧t<pos S (k+1):=by
 have key:∀ d i,i+d=S.length→pos S i≤t→∃ k,k<S.length∧pos S k≤t∧t<pos S (k+1):=by
  intro d
  induction d with
  | zero=>intro i hi hp;rw [xjQ (by omega)] at hp;omega
  | succ d ih =>
   intro i hi hp
   by_cases hq:t<pos S (i+1)
   · exact ⟨i,by omega,hp,hq⟩
   · exact ih (i+1) (by omega) (by omega)
 exact key S.length 0 (by omega) (by rw [h.zero];exact h0)
def cutOk (S:List Per) (p:Per) (k:Nat):Bool:=pv p&&(decide (p.1<pos S (k+1))&&decide (pos S k<p.2))
theorem xhh {S:List Per} {p:Per} {k:Nat}:cutOk S p k=true↔pv p=true∧p.1<pos S (k+1)∧pos S k<p.2:=by
 simp [cutOk]
def cutF (S:List Per) (p:Per) (k:Nat):Int:=max p.1 (pos S k)
def cutT (S:List Per) (p:Per) (k:Nat):Int:=min p.2 (pos S (k+1))
def lev (S:List Per) (k:Nat):Int:=match S[k]? with
 | some s=>s.2
 | none=>0
theorem xtu {S:List Per} {k:Nat} (h:k<S.length):lev S k=S[k].2:=by unfold lev;rw [List.getElem?_eq_getElem h]
def itgW (S:List Per) (p:Per):Nat→Int
 | 0=>0
 | k+1=>if cutOk S p k=true then IntKind.i64.wrap (itgW S p k+IntKind.i64.wrap (lev S k*IntKind.i64.wrap (cutT S p k - cutF S p k))) else itgW S p k
def pkS (S:List Per) (p:Per) (k:Nat) (s:Int×Int):Int×Int:=if pos S k<p.2∧s.1<lev S k then (lev S k,pos S k) else s
def pk (S:List Per) (p:Per) (j:Nat):Nat→Int×Int
 | 0=>(lev S j,p.1)
 | d+1=>pkS S p (j+1+d) (pk S p j d)
structure PkI (S:List Per) (p:Per) (T:Int) (s:Int×Int):Prop where
 in1:p.1≤s.2
 in2:s.2<p.2
 val:∃ k,k<S.length∧pos S k≤s.2∧s.2<pos S (k+1)∧lev S k=s.1
 most:∀ k t,k<S.length→pos S k≤t→t<pos S (k+1)→p.1≤t→t<p.2→t<T→lev S k≤s.1∧(lev S k=s.1→s.2≤t)
end Go.Sim.M
end
noncomputable section
set_option maxRecDepth 100000
namespace Go.Sim.M
open Go.RowKit Go.Sim.Srt
def isc (p q:Per):Bool:=pv p&&(pv q&&(decide (p.1<q.2)&&decide (q.1<p.2)))
theorem xtw (p q:Per):xad p.1 p.2 q.1 q.2=if isc p q=true then (max p.1 q.1,min p.2 q.2,true) else (0,0,false):=by
 have e:xbI p.1 p.2 q.1 q.2=isc p q:=by
  unfold xbI isc
  rw [xjR p,xjR q]
  cases pv p<;>cases pv q<;>cases decide (p.1<q.2)<;>rfl
 unfold xad
 rw [e]
 cases isc p q
 · rfl
 · have e1:(if q.1>p.1 then q.1 else p.1)=max p.1 q.1:=by split<;>omega
   have e2:(if q.2<p.2 then q.2 else p.2)=min p.2 q.2:=by split<;>omega
   rw [e1,e2];rfl
theorem xtB (p q:Per):xap p.1 p.2 q.1 q.2=if isc p q=true then (max p.1 q.1,min p.2 q.2,true) else (0,0,false):=by
 have e:xb5 p.1 p.2 q.1 q.2=isc p q:=by
  unfold xb5 isc
  rw [xf7 p,xf7 q]
  cases pv p<;>cases pv q<;>cases decide (p.1<q.2)<;>rfl
 unfold xap
 rw [e]
 cases isc p q
 · rfl
 · have e1:(if q.1>p.1 then q.1 else p.1)=max p.1 q.1:=by split<;>omega
   have e2:(if q.2<p.2 then q.2 else p.2)=min p.2 q.2:=by split<;>omega
   rw [e1,e2];rfl
def pie (S:List Per) (k:Nat):Per:=(pos S k,pos S (k+1))
theorem xsW {S:List Per} (h:VS S) {k:Nat} (hk:k<S.length) (p:Per):isc p (pie S k)=cutOk S p k:=by
 unfold isc cutOk pie
 rw [h.pv hk,Bool.true_and]
theorem xsi {S:List Per} (h:VS S) {k:Nat} (hk:k<S.length) (p:Per):isc (pie S k) p=cutOk S p k:=by
 unfold isc cutOk pie
 rw [h.pv hk]
 cases pv p<;>cases decide (p.1<pos S (k+1))<;>cases decide (pos S k<p.2)<;>rfl
theorem xqi {S:List Per} (h:VS S) {k:Nat} (hk:k<S.length) (p:Per):xad p.1 p.2 (pos S k) (pos S (k+1))=if cutOk S p k=true then (cutF S p k,cutT S p k,true) else (0,0,false):=by
 have:=xtw p (pie S k)
 rw [xsW h hk] at this
 exact this
theorem xs8 {S:List Per} (h:VS S) {k:Nat} (hk:k<S.length) (p:Per):xap (pos S k) (pos S (k+1)) p.1 p.2=if cutOk S p k=true then (cutF S p k,cutT S p k,true) else (0,0,false):=by
 have:=xtB (pie S k) p
 rw [xsi h hk] at this
 unfold pie at this
 unfold cutF cutT
 rw [Int.max_comm,Int.min_comm] at this
 exact this
theorem xbt {S:List Per} {k:Nat} (hk:k<S.length):(((S.map encP).getD k .top).cells.getD 0 .top).toInt=pos S k:=by
 rw [xaG _ _ _ hk,cP0,xty hk]
theorem xct {S:List Per} {k:Nat} (hk:k<S.length):(((S.map encP).getD k .top).cells.getD 1 .top).toInt=lev S k:=by
 rw [xaG _ _ _ hk,cP1,xtu hk]
theorem xj8 {S:List Per} {k:Nat} (hk:k<S.length):(((S.map encP).getD k .top).cells.length==2&&hasShs [Sh.int .i64,Sh.int .i64] ((S.map encP).getD k .top).cells 0)=true:=by
 rw [xaG _ _ _ hk];rfl
theorem xcv {S:List Per} {k:Nat} (hk:k<S.length):hasSh1 (Sh.int .i64) (((S.map encP).getD k .top).cells.getD 0 .top)=true:=by
 rw [xaG _ _ _ hk];rfl
theorem xeh {S:List Per} {k:Nat} (hk:k<S.length):hasSh1 (Sh.int .i64) (((S.map encP).getD k .top).cells.getD 1 .top)=true:=by
 rw [xaG _ _ _ hk];rfl
theorem xqC {S:List Per} (h:VS S) (hl:S.length≤1048576) (p:Per):Iter (xag (S.map encP) (S.map encP) ((S.length:Nat):Int)) ((0:Int),(0:Int),p.1,p.2)=some (itgW S p S.length):=by
 refine xdF (fun k=>((k:Int),itgW S p k,p.1,p.2)) S.length (itgW S p S.length) (fun k hk=>?_) ?_ S.length 0 (by omega)
 · have i1:(k:Int)<(S.length:Int):=by omega
   have hi:=xqi h hk p
   have hs:itgW S p (k+1)=if cutOk S p k=true then xfE (cutF S p k) (cutT S p k) (lev S k) (itgW S p k) else itgW S p k:=rfl
   by_cases hk1:k+1<S.length
   · have i2:((k+1:Nat):Int)<(S.length:Int):=by omega
     simp only [xag,xa0,xca,xcb,xcc,List.length_map,xab,xac,decide_true,decide_false,Bool.and_true,Bool.true_and,Bool.not_true,Bool.not_false,Int.toNat_natCast,Int.natCast_nonneg,Option.isSome_some,Option.getD_some,beq_self_eq_true,Nat.zero_add,Nat.sub_zero,hk,hk1,i1,i2,xbt hk,xbt hk1,xct hk,xj8 hk,xcv hk1,wrapS (n:=k) (by omega),hi]
     cases hc:cutOk S p k<;>simp [hs,hc,xab,xac]
   · have i2:¬ ((k+1:Nat):Int)<(S.length:Int):=by omega
     have e1:pos S (k+1)=1099511627776:=xjQ (by omega)
     rw [e1] at hi
     simp only [xag,xa0,xca,xcb,xcc,List.length_map,xab,xac,decide_true,decide_false,Bool.and_true,Bool.true_and,Bool.not_true,Bool.not_false,Int.toNat_natCast,Int.natCast_nonneg,Option.isSome_some,Option.getD_some,beq_self_eq_true,Nat.zero_add,Nat.sub_zero,hk,i1,i2,xbt hk,xct hk,xj8 hk,wrapS (n:=k) (by omega),hi]
     cases hc:cutOk S p k<;>simp [hs,hc,xab,xac]
 · simp only [xag,xa0,Int.lt_irrefl,decide_false,xac]
theorem xpG {S:List Per} (h:VS S) (hl:S.length≤1048576) (p:Per):xaI (S.map encP) p.1 p.2=some (itgW S p S.length):=by
 have e:xa5 (S.map encP) p.1 p.2 0=some (itgW S p S.length):=by
  unfold xa5 xdl
  simp only [List.length_map,xqC h hl p,Option.isSome_some,Option.getD_some,xab]
 unfold xaI xcP
 simp only [e,Option.isSome_some,Option.getD_some,xab]
theorem xph {S:List Per} (h:VS S) (hl:S.length≤1048576) (p:Per):xbD (S.map encP) p.1 p.2=some (itgW S p S.length):=by
 have e:Iter (xai (S.map encP)) ((0:Int),(0:Int),p.1,p.2)=some (itgW S p S.length):=by
  refine xdF (fun k=>(itgW S p k,(k:Int),p.1,p.2)) S.length (itgW S p S.length) (fun k hk=>?_) ?_ S.length 0 (by omega)
  · have i1:(k:Int)<(S.length:Int):=by omega
    have hi:=xs8 h hk p
    have hs:itgW S p (k+1)=if cutOk S p k=true then IntKind.i64.wrap (itgW S p k+IntKind.i64.wrap (lev S k*IntKind.i64.wrap (cutT S p k - cutF S p k))) else itgW S p k:=rfl
    by_cases hk1:k+1<S.length
    · have i2:((k+1:Nat):Int)<(S.length:Int):=by omega
      simp only [xai,xbq,xbL,xcR,xcS,xcT,List.length_map,xab,xac,decide_true,decide_false,Bool.and_true,Bool.true_and,Bool.not_true,Bool.not_false,Int.toNat_natCast,Int.natCast_nonneg,Option.isSome_some,Option.getD_some,beq_self_eq_true,Nat.zero_add,Nat.sub_zero,hk,hk1,i1,i2,xbt hk,xbt hk1,xct hk,xeh hk,xcv hk,xcv hk1,wrapS (n:=k) (by omega),hi]
      cases hc:cutOk S p k<;>simp [hs,hc,xab,xac]
    · have i2:¬ ((k+1:Nat):Int)<(S.length:Int):=by omega
      have e1:pos S (k+1)=1099511627776:=xjQ (by omega)
      rw [e1] at hi
      simp only [xai,xbq,xbL,xcR,xcS,xcT,List.length_map,xab,xac,decide_true,decide_false,Bool.and_true,Bool.true_and,Bool.not_true,Bool.not_false,Int.toNat_natCast,Int.natCast_nonneg,Option.isSome_some,Option.getD_some,beq_self_eq_true,Nat.zero_add,Nat.sub_zero,hk,i1,i2,xbt hk,xct hk,xeh hk,xcv hk,wrapS (n:=k) (by omega),hi]
      cases hc:cutOk S p k<;>simp [hs,hc,xab,xac]
  · simp only [xai,xbq,List.length_map,Int.lt_irrefl,decide_false,xac]
 unfold xbD xeb
 simp only [e,Option.isSome_some,Option.getD_some,xab]
def pkW (S:List Per) (p:Per):Nat→Bool×Int×Int
 | 0=>(false,0,0)
 | k+1=>if cutOk S p k=true then (if (pkW S p k).1=false∨(pkW S p k).2.1<lev S k then (true,lev S k,cutF S p k) else pkW S p k) else pkW S p k
theorem xso (f t n:Int) (s:Bool×Int×Int):xbX f t n s.1 s.2.1 s.2.2=if s.1=false∨s.2.1<n then (true,n,f) else s:=by
 obtain ⟨a,b,c⟩:=s
 unfold xbX
 cases a
 · rfl
 · by_cases h:b<n
   · simp [h,xab,xac]
   · simp [h,xab,xac]
theorem xqD {S:List Per} (h:VS S) (hl:S.length≤1048576) (p:Per):Iter (xaj (S.map encP) (S.map encP) ((S.length:Nat):Int)) ((0:Int),false,(0:Int),(0:Int),p.1,p.2)=some (pkW S p S.length):=by
 refine xdF (fun k=>((k:Int),(pkW S p k).1,(pkW S p k).2.1,(pkW S p k).2.2,p.1,p.2)) S.length (pkW S p S.length) (fun k hk=>?_) ?_ S.length 0 (by omega)
 · have i1:(k:Int)<(S.length:Int):=by omega
   have hi:=xqi h hk p
   have hs:pkW S p (k+1)=if cutOk S p k=true then xbX (cutF S p k) (cutT S p k) (lev S k) (pkW S p k).1 (pkW S p k).2.1 (pkW S p k).2.2 else pkW S p k:=by
    rw [xso];rfl
   by_cases hk1:k+1<S.length
   · have i2:((k+1:Nat):Int)<(S.length:Int):=by omega
     simp only [xaj,xa2,xcd,xce,xcf,xcg,xch,xci,xcj,List.length_map,xab,xac,decide_true,decide_false,Bool.and_true,Bool.true_and,Bool.not_true,Bool.not_false,Int.toNat_natCast,Int.natCast_nonneg,Option.isSome_some,Option.getD_some,beq_self_eq_true,Nat.zero_add,Nat.sub_zero,hk,hk1,i1,i2,xbt hk,xbt hk1,xct hk,xj8 hk,xcv hk1,wrapS (n:=k) (by omega),hi]
     cases hc:cutOk S p k<;>simp [hs,hc,xab,xac]
   · have i2:¬ ((k+1:Nat):Int)<(S.length:Int):=by omega
     have e1:pos S (k+1)=1099511627776:=xjQ (by omega)
     rw [e1] at hi
     simp only [xaj,xa2,xcd,xce,xcf,xcg,xch,xci,xcj,List.length_map,xab,xac,decide_true,decide_false,Bool.and_true,Bool.true_and,Bool.not_true,Bool.not_false,Int.toNat_natCast,Int.natCast_nonneg,Option.isSome_some,Option.getD_some,beq_self_eq_true,Nat.zero_add,Nat.sub_zero,hk,i1,i2,xbt hk,xct hk,xj8 hk,wrapS (n:=k) (by omega),hi]
     cases hc:cutOk S p k<;>simp [hs,hc,xab,xac]
 · simp only [xaj,xa2,Int.lt_irrefl,decide_false,xac]
theorem xs6 {S:List Per} (h:VS S) (hl:S.length≤1048576) (p:Per):xaT (S.map encP) p.1 p.2=some (pkW S p S.length).2:=by
 have e:xaA (S.map encP) p.1 p.2 false 0 0=some (pkW S p S.length):=by
  unfold xaA xdm
  simp only [xey,xez,xeA,List.length_map,xqD h hl p,Option.isSome_some,Option.getD_some,xab]
 unfold xaT xea
 simp only [e,Option.isSome_some,Option.getD_some,xab]
theorem xqj {S:List Per} {p:Per} (hp:pv p=false):∀ k,pkW S p k=(false,0,0)
 | 0=>rfl
 | k+1=>by
  have:cutOk S p k=false:=by simp [cutOk,hp]
  unfold pkW
  rw [this,if_neg (by simp),xqj hp k]
theorem xnV {S:List Per} (h:VS S) {p:Per} {j:Nat} (hj:j<S.length) (h1:pos S j≤p.1):∀ k,k≤j→pkW S p k=(false,0,0)
 | 0,_=>rfl
 | k+1,hk=>by
  have hle:=h.le (i:=k+1) (k:=j) hk (by omega)
  have:cutOk S p k=false:=by
   cases hc:cutOk S p k with
   | false=>rfl
   | true=>have:=xhh.1 hc;omega
  unfold pkW
  rw [this,if_neg (by simp),xnV h hj h1 k (by omega)]
theorem xrN {S:List Per} (h:VS S) {p:Per} (hp:pv p=true) {j:Nat} (hj:j<S.length) (h1:pos S j≤p.1) (h2:p.1<pos S (j+1)):∀ d,j+1+d≤S.length→pkW S p (j+1+d)=(true,pk S p j d)
 | 0,_=>by
  have b:=xbu.1 hp
  have hc:cutOk S p j=true:=xhh.2 ⟨hp,h2,by omega⟩
  have e:cutF S p j=p.1:=by unfold cutF;omega
  show pkW S p (j+1)=_
  unfold pkW
  rw [if_pos hc,xnV h hj h1 j (Nat.le_refl _),if_pos (.inl rfl),e]
  rfl
 | d+1,hd=>by
  have ih:=xrN h hp hj h1 h2 d (by omega)
  have hge:pos S (j+1)≤pos S (j+1+d):=h.le (by omega) (by omega)
  have hst:=h.step (j+1+d) (by omega)
  have e:cutF S p (j+1+d)=pos S (j+1+d):=by unfold cutF;omega
  show pkW S p (j+1+d+1)=(true,pkS S p (j+1+d) (pk S p j d))
  unfold pkW pkS
  rw [ih,e]
  by_cases hq:pos S (j+1+d)<p.2
  · have hc:cutOk S p (j+1+d)=true:=xhh.2 ⟨hp,by omega,hq⟩
    rw [if_pos hc]
    by_cases hm:(pk S p j d).1<lev S (j+1+d)
    · rw [if_pos (.inr hm),if_pos ⟨hq,hm⟩]
    · rw [if_neg (by simp;omega),if_neg (by omega)]
  · have hc:cutOk S p (j+1+d)=false:=by
     cases hc:cutOk S p (j+1+d) with
     | false=>rfl
     | true=>exact absurd (xhh.1 hc).2.2 hq
    rw [hc,if_neg (by simp),if_neg (by omega)]
theorem xss {S:List Per} (h:VS S) (hl:S.length≤1048576) {t:Int} (h0:0≤t) (hF:t<1099511627776) {j:Nat} (hj:j<S.length) (h1:pos S j≤t) (h2:t<pos S (j+1)):xeM (S.map encP) t=some (lev S j):=by
 have key:Iter (xaM (S.map encP) t) ((0:Int),(0:Int))=some (lev S j):=by
  refine xdF (fun k=>((if k=0 then 0 else lev S (min (k - 1) j):Int),(k:Int))) S.length (lev S j) (fun k hk=>?_) ?_ S.length 0 (by omega)
  · have i1:(k:Int)<(S.length:Int):=by omega
    simp only [xaM,xec,List.length_map,xab,xac,decide_true,decide_false,Bool.and_true,Bool.true_and,Bool.not_true,Bool.not_false,Int.toNat_natCast,Int.natCast_nonneg,Option.isSome_some,Option.getD_some,beq_self_eq_true,Nat.zero_add,Nat.sub_zero,hk,i1,xbt hk,xct hk,xeh hk,xcv hk,wrapS (n:=k) (by omega),h0,hF,ge_iff_le]
    by_cases hp:pos S k≤t
    · have hkj:k≤j:=by
       rcases Nat.lt_or_ge j k with hlt|hge
       · have:=h.le (i:=j+1) (k:=k) hlt (by omega);omega
       · exact hge
      simp only [hp,decide_true,xab]
      rw [if_neg (by omega),show min (k+1 - 1) j=k by omega]
    · have hkj:j<k:=by
       rcases Nat.lt_or_ge j k with hlt|hge
       · exact hlt
       · have:=h.le (i:=k) (k:=j) hge (by omega);omega
      simp only [hp,decide_false,xac]
      rw [if_neg (by omega),if_neg (by omega),show min (k+1 - 1) j=min (k - 1) j by omega]
  · simp only [xaM,xec,List.length_map,Int.lt_irrefl,decide_false,xac]
    rw [if_neg (by have:=h.ne;omega),show min (S.length - 1) j=j by omega]
 unfold xeM xgw
 simp only [key,Option.isSome_some,Option.getD_some,xab]
theorem xq5 {S:List Per} (h:VS S) (hl:S.length≤1048576) {p:Per} (hp:pv p=true) {j:Nat} (hj:j<S.length) (h1:pos S j≤p.1) (h2:p.1<pos S (j+1)) :
  Iter (xaE (S.map encP)) (lev S j,p.1,(0:Int),p.1,p.2)=some (pk S p j (S.length - (j+1))):=by
 have b:=xbu.1 hp
 suffices h0:Iter (xaE (S.map encP)) ((pk S p j (0 - (j+1))).1,(pk S p j (0 - (j+1))).2,((0:Nat):Int),p.1,p.2)=some (pk S p j (S.length - (j+1))) by
  rw [show 0 - (j+1)=0 by omega] at h0
  exact h0
 refine xdF (fun k=>((pk S p j (k - (j+1))).1,(pk S p j (k - (j+1))).2,(k:Int),p.1,p.2)) S.length (pk S p j (S.length - (j+1))) (fun k hk=>?_) ?_ S.length 0 (by omega)
 · have i1:(k:Int)<(S.length:Int):=by omega
   have hc:=xpb p (pos S k)
   have hst:=h.step k hk
   simp only [xaE,xdB,xc5,List.length_map,xab,xac,decide_true,decide_false,Bool.and_true,Bool.true_and,Bool.not_true,Bool.not_false,Int.toNat_natCast,Int.natCast_nonneg,Option.isSome_some,Option.getD_some,beq_self_eq_true,Nat.zero_add,Nat.sub_zero,hk,i1,xbt hk,xct hk,xeh hk,xcv hk,wrapS (n:=k) (by omega),hc]
   by_cases hkj:k≤j
   · have e:k+1 - (j+1)=0:=by omega
     have e':k - (j+1)=0:=by omega
     rw [e,e']
     have hle:=h.le hkj (by omega)
     show br (hasP p (pos S k)) (br (decide (lev S k>lev S j)) _ _) _=some (Sum.inl (lev S j,p.1,((k+1:Nat):Int),p.1,p.2))
     by_cases hin:hasP p (pos S k)=true
     · have hin':=(xbH.1 hin).2
       have hkj':k=j:=by
        rcases Nat.lt_or_eq_of_le hkj with hlt|he
        · have:=h.le (i:=k+1) (k:=j) hlt (by omega);omega
        · exact he
       subst hkj'
       simp [hin,xab,xac];exact ⟨rfl,rfl⟩
     · have hin':hasP p (pos S k)=false:=by simpa using hin
       rw [hin'];rfl
   · have e:k+1 - (j+1)=(k - (j+1))+1:=by omega
     have ek:j+1+(k - (j+1))=k:=by omega
     have hge:=h.le (i:=j+1) (k:=k) (by omega) (by omega)
     rw [e]
     show _=some (Sum.inl ((pkS S p (j+1+(k - (j+1))) (pk S p j (k - (j+1)))).1,(pkS S p (j+1+(k - (j+1))) (pk S p j (k - (j+1)))).2,((k+1:Nat):Int),p.1,p.2))
     rw [ek]
     generalize pk S p j (k - (j+1))=s
     unfold pkS
     by_cases hq:pos S k<p.2
     · have hin:hasP p (pos S k)=true:=xbH.2 ⟨hp,by omega,hq⟩
       by_cases hm:s.1<lev S k
       · simp [hin,hq,hm,xab,xac]
       · simp [hin,hq,hm,xab,xac]
     · have hin:hasP p (pos S k)=false:=by
        cases hc:hasP p (pos S k) with
        | false=>rfl
        | true=>have:=(xbH.1 hc).2;omega
       simp [hin,hq,xab,xac]
 · simp only [xaE,xdB,List.length_map,Int.lt_irrefl,decide_false,xac]
theorem xsu {S:List Per} (h:VS S) (hl:S.length≤1048576) (p:Per):xcp (S.map encP) p.1 p.2=some (pkW S p S.length).2:=by
 unfold xcp xfy
 rw [xf7 p]
 cases hp:pv p with
 | false=>rw [xqj hp];rfl
 | true =>
  have b:=xbu.1 hp
  obtain ⟨j,hj,h1,h2⟩:=h.find (t:=p.1) b.1 (by omega)
  have e1:=xss h hl b.1 (by omega) hj h1 h2
  have e2:=xq5 h hl hp hj h1 h2
  have e3:=xrN h hp hj h1 h2 (S.length - (j+1)) (by omega)
  rw [show j+1+(S.length - (j+1))=S.length by omega] at e3
  simp only [xgg,xgh,e1,e2,e3,Option.isSome_some,Option.getD_some,xab,xac,Bool.not_true]
theorem xk5 (S:List Per) (hl:S.length≤1048576):∀ d k,0<k→k+d=S.length→Iter (xae (S.map encP)) (k:Int)=some (if ((List.range d).all fun i=>decide (pos S (k+i - 1)<pos S (k+i))&&(decide (pos S (k+i)<1099511627776)&&!(lev S (k+i)==lev S (k+i - 1))))=true then (false,false,()) else (true,false,()))
 | 0,k,h0,hd=>by
  have i1:¬ (k:Int)<(S.length:Int):=by omega
  refine xc0 ?_
  simp only [xae,xba,List.length_map,i1,decide_false,xac]
  rfl
 | d+1,k,h0,hd=>by
  have hk:k<S.length:=by omega
  have hk1:k - 1<S.length:=by omega
  have i1:(k:Int)<(S.length:Int):=by omega
  have i2:((k - 1:Nat):Int)<(S.length:Int):=by omega
  have ih:=xk5 S hl d (k+1) (by omega) (by omega)
  have ew:IntKind.i64.wrap ((k:Int) - 1)=((k - 1:Nat):Int):=by rw [xfh (by omega) (by omega)];omega
  have er:((List.range (d+1)).all fun i=>decide (pos S (k+i - 1)<pos S (k+i))&&(decide (pos S (k+i)<1099511627776)&&!(lev S (k+i)==lev S (k+i - 1)))) =
    ((decide (pos S (k - 1)<pos S k)&&(decide (pos S k<1099511627776)&&!(lev S k==lev S (k - 1))))&&(List.range d).all fun i=>decide (pos S (k+1+i - 1)<pos S (k+1+i))&&(decide (pos S (k+1+i)<1099511627776)&&!(lev S (k+1+i)==lev S (k+1+i - 1)))):=by
   rw [List.range_succ_eq_map,List.all_cons,List.all_map]
   congr 1
   congr 1
   funext i
   simp only [Function.comp]
   rw [show k+(i+1)=k+1+i by omega]
  rw [er]
  by_cases c1:pos S (k - 1)<pos S k
  · by_cases c2:pos S k<1099511627776
    · cases c3:(lev S k==lev S (k - 1)) with
      | false =>
       rw [xeI (s':=((k+1:Nat):Int)) ?_,ih]
       · simp [c1,c2]
       · have n1:¬ pos S k≤pos S (k - 1):=by omega
         have n2:¬ pos S k≥1099511627776:=by omega
         simp only [xae,xba,xbU,xbh,List.length_map,xab,xac,decide_true,decide_false,Bool.and_true,Bool.true_and,Bool.not_true,Bool.not_false,Int.toNat_natCast,Int.natCast_nonneg,Option.isSome_some,Option.getD_some,beq_self_eq_true,Nat.zero_add,Nat.sub_zero,hk,hk1,i1,i2,ew,xbt hk,xbt hk1,xct hk,xct hk1,xeh hk,xcv hk,xeh hk1,xcv hk1,wrapS (n:=k) (by omega),n1,n2,c3]
      | true =>
       have n1:¬ pos S k≤pos S (k - 1):=by omega
       have n2:¬ pos S k≥1099511627776:=by omega
       refine xc0 ?_
       simp only [xae,xba,xbU,xbh,List.length_map,xab,xac,decide_true,decide_false,Bool.and_true,Bool.true_and,Bool.not_true,Bool.not_false,Int.toNat_natCast,Int.natCast_nonneg,Option.isSome_some,Option.getD_some,beq_self_eq_true,Nat.zero_add,Nat.sub_zero,hk,hk1,i1,i2,ew,xbt hk,xbt hk1,xct hk,xct hk1,xeh hk,xcv hk,xeh hk1,xcv hk1,wrapS (n:=k) (by omega),n1,n2,c3]
       simp [c1,c2]
    · have n1:¬ pos S k≤pos S (k - 1):=by omega
      have n2:pos S k≥1099511627776:=by omega
      refine xc0 ?_
      simp only [xae,xba,xbU,xbh,List.length_map,xab,xac,decide_true,decide_false,Bool.and_true,Bool.true_and,Bool.not_true,Bool.not_false,Int.toNat_natCast,Int.natCast_nonneg,Option.isSome_some,Option.getD_some,beq_self_eq_true,Nat.zero_add,Nat.sub_zero,hk,hk1,i1,i2,ew,xbt hk,xbt hk1,xct hk,xct hk1,xeh hk,xcv hk,xeh hk1,xcv hk1,wrapS (n:=k) (by omega),n1,n2]
      simp [c1,c2]
  · have n1:pos S k≤pos S (k - 1):=by omega
    refine xc0 ?_
    simp only [xae,xba,xbU,xbh,List.length_map,xab,xac,decide_true,decide_false,Bool.and_true,Bool.true_and,Bool.not_true,Bool.not_false,Int.toNat_natCast,Int.natCast_nonneg,Option.isSome_some,Option.getD_some,beq_self_eq_true,Nat.zero_add,Nat.sub_zero,hk,hk1,i1,i2,ew,xbt hk,xbt hk1,xct hk,xct hk1,xeh hk,xcv hk,xeh hk1,xcv hk1,wrapS (n:=k) (by omega),n1]
    simp [c1]
theorem xrW (S:List Per) (hl:S.length≤1048576):∃ b,xcU (S.map encP)=some b∧(b=true→VS S):=by
 unfold xcU xfc
 rcases Nat.eq_zero_or_pos S.length with h0|h0
 · refine ⟨false,?_,fun h=>by simp at h⟩
   simp [h0,xab]
 · have i0:((S.length:Int)==0)=false:=by rw [beq_eq_false_iff_ne];omega
   have i1:(0:Int)<(S.length:Int):=by omega
   have hp0:=xbt (S:=S) (k:=0) h0
   by_cases hz:pos S 0=0
   · have hlp:=xk5 S hl (S.length - 1) 1 (by omega) (by omega)
     have hlp:Iter (xae (S.map encP)) (1:Int)=_:=hlp
     have hz':(pos S 0 != 0)=false:=by simp [hz]
     simp only [List.length_map,i0,i1,h0,hp0,hz',xcv h0,decide_true,Bool.and_true,xab,xac,hlp,Option.isSome_some,Option.getD_some]
     by_cases ha:((List.range (S.length - 1)).all fun i=>decide (pos S (1+i - 1)<pos S (1+i))&&(decide (pos S (1+i)<1099511627776)&&!(lev S (1+i)==lev S (1+i - 1))))=true
     · rw [if_pos ha]
       refine ⟨true,rfl,fun _=>⟨h0,hz,fun i hi=>?_⟩⟩
       rw [List.all_eq_true] at ha
       have hub:∀ i,i<S.length→pos S i<1099511627776:=fun i hi=>by
        rcases Nat.eq_zero_or_pos i with hi0|hpos
        · rw [hi0,hz];decide
        · have:=ha (i - 1) (List.mem_range.2 (by omega))
          simp only [Bool.and_eq_true,decide_eq_true_eq] at this
          have:=this.2.1
          rwa [show 1+(i - 1)=i by omega] at this
       by_cases hi1:i+1<S.length
       · have:=ha i (List.mem_range.2 (by omega))
         simp only [Bool.and_eq_true,decide_eq_true_eq] at this
         have h3:=this.1
         rw [show 1+i - 1=i by omega,show 1+i=i+1 by omega] at h3
         have:=hub (i+1) hi1
         exact ⟨h3,by omega⟩
       · rw [xjQ (i:=i+1) (by omega)]
         exact ⟨hub i hi,Int.le_refl _⟩
     · rw [if_neg ha]
       exact ⟨false,rfl,fun h=>by simp at h⟩
   · refine ⟨false,?_,fun h=>by simp at h⟩
     have hz':(pos S 0 != 0)=true:=by simp [hz]
     simp only [List.length_map,i0,i1,h0,hp0,hz',xcv h0,decide_true,Bool.and_true,xab,xac]
end Go.Sim.M
end
noncomputable section
set_option maxRecDepth 100000
namespace Go.Sim.M
open Go.RowKit Go.Sim.Srt
def onesF (l:List Fc):List Cnt:=l.map fun f=>(f.p,(1:Int))
theorem xmm {l:List Fc} (h:l.length≤262144):Tame (onesF l):=⟨by simpa [onesF] using h,fun c hc=>by
 obtain ⟨f,_,rfl⟩:=List.mem_map.1 hc
 dsimp only;omega⟩
theorem xhb (l:List Fc) (hl:l.length≤1048576):Iter (xan (l.map encF) ((l.length:Nat):Int)) ((0:Nat),(0:Int),[])=some ((l.flatMap (fun (f:Fc)=>[(f.p,(1:Int))])).length,(l.flatMap (fun (f:Fc)=>[(f.p,(1:Int))])).map encC):=by
 refine xlm l (fun (f:Fc)=>[(f.p,(1:Int))]) encC 1 (fun f hf=>?_) (fun n h D hD=>?_) (fun D=>?_)
 · simp
 · have h1:(n:Int)<(l.length:Int):=by omega
   have m1:(D.length+1)*24≤140737488355328:=by omega
   have m2:D.length+1≤4611686018427387904:=by omega
   have gf:(l.map encF).getD n .top=encF l[n]:=xaG _ _ _ h
   simp only [xan,xbF,List.length_map,xab,xac,decide_true,decide_false,Bool.and_true,Bool.true_and,Bool.not_true,Bool.not_false,Int.toNat_natCast,Int.natCast_nonneg,Option.isSome_some,Option.getD_some,beq_self_eq_true,Nat.zero_add,Nat.sub_zero,h,h1,gf,cF0,cF1,cF2,sF0,sF1,sF2,lF,sF12,sF02,m1,m2,wrapS (n:=n) (by omega)]
   simp [encC]
 · simp only [xan,xbF,List.length_map,Int.lt_irrefl,decide_false,xac]
theorem xsa (l:List Fc) (hl:l.length≤1048576):xaZ (l.map encF)=xeR ((onesF l).map encC):=by
 have h:=xhb l hl
 rw [flat1] at h
 unfold xaZ xdI xeB xeC xeD xeE onesF
 rw [List.length_map,h]
 simp only [List.drop_zero,List.take_of_length_le,Nat.zero_add,List.length_map,Nat.le_refl,decide_true,Bool.and_true,xab,Option.isSome_some,Option.getD_some,xoR]
theorem xje (l:List Fc) (hl:l.length≤1048576):Iter (xaB (l.map encF)) ((0:Nat),(0:Int),[])=some ((l.flatMap (fun (f:Fc)=>[(f.p,(1:Int))])).length,(l.flatMap (fun (f:Fc)=>[(f.p,(1:Int))])).map encC):=by
 refine xlm l (fun (f:Fc)=>[(f.p,(1:Int))]) encC 1 (fun f hf=>?_) (fun n h D hD=>?_) (fun D=>?_)
 · simp
 · have h1:(n:Int)<(l.length:Int):=by omega
   have m1:(D.length+1)*24≤140737488355328:=by omega
   have m2:D.length+1≤4611686018427387904:=by omega
   have gf:(l.map encF).getD n .top=encF l[n]:=xaG _ _ _ h
   simp only [xaB,xc4,List.length_map,xab,xac,decide_true,decide_false,Bool.and_true,Bool.true_and,Bool.not_true,Bool.not_false,Int.toNat_natCast,Int.natCast_nonneg,Option.isSome_some,Option.getD_some,beq_self_eq_true,Nat.zero_add,Nat.sub_zero,h,h1,gf,cF0,cF1,cF2,sF0,sF1,sF2,lF,sF12,sF02,m1,m2,wrapS (n:=n) (by omega)]
   simp [encC]
 · simp only [xaB,xc4,List.length_map,Int.lt_irrefl,decide_false,xac]
theorem xrR (l:List Fc) (hl:l.length≤1048576):xco (l.map encF)=xeN ((onesF l).map encC):=by
 have h:=xje l hl
 rw [flat1] at h
 unfold xco xfd xfI xfJ xfK xfL onesF
 rw [h]
 simp only [List.drop_zero,List.take_of_length_le,Nat.zero_add,List.length_map,Nat.le_refl,decide_true,Bool.and_true,xab,Option.isSome_some,Option.getD_some,xoR]
theorem xrX (S:List Per) (hl:S.length≤1048576):xdz (S.map encP) (S.map encP)=some true:=by
 have e:Iter (xay (S.map encP) (S.map encP)) (0:Int)=some (false,false,()):=by
  refine xdF (fun k=>(k:Int)) S.length (false,false,()) (fun k hk=>?_) ?_ S.length 0 (by omega)
  · have i1:(k:Int)<(S.length:Int):=by omega
    simp only [xay,xdA,List.length_map,xab,xac,decide_true,decide_false,Bool.and_true,Bool.true_and,Bool.not_true,Bool.not_false,Int.toNat_natCast,Int.natCast_nonneg,Option.isSome_some,Option.getD_some,beq_self_eq_true,Nat.zero_add,Nat.sub_zero,hk,i1,xbt hk,xct hk,xj8 hk,wrapS (n:=k) (by omega)]
  · simp only [xay,xdA,List.length_map,Int.lt_irrefl,decide_false,xac]
 unfold xdz xfv
 simp only [e,bne_self_eq_false,xac,Option.isSome_some,Option.getD_some,xab]
theorem xrF (l:List Fc) (S:List Per) (p:Per):xaL (l.map encF) (S.map encP) p.1 p.2=some true:=by
 unfold xaL xcm
 by_cases h1:(l.length:Int)>24
 · simp [h1,xab]
 by_cases h2:(S.length:Int)>24
 · simp [h1,h2,xab,xac]
 have hl:l.length≤262144:=by omega
 obtain ⟨A,a1,a2,a3⟩:=xiF _ (xmm hl)
 obtain ⟨B,b1,b2,b3⟩:=xtC _ (xmm hl)
 obtain rfl:A=B:=a2.unique b2
 have hol:(onesF l).length=l.length:=by simp [onesF]
 have c1:=xsa l (by omega)
 have c2:=xrR l (by omega)
 rw [a1] at c1
 rw [b1] at c2
 have c3:=xrX A (by omega)
 obtain ⟨b,v1,v2⟩:=xrW S (by omega)
 cases b with
 | false=>simp [h1,h2,c1,c2,c3,v1,xab,xac]
 | true =>
  have hv:=v2 rfl
  have d1:=xs6 hv (by omega) p
  have d2:=xsu hv (by omega) p
  have d3:=xpG hv (by omega) p
  have d4:=xph hv (by omega) p
  simp [h1,h2,c1,c2,c3,v1,d1,d2,d3,d4,xab,xac]
end Go.Sim.M
end
noncomputable section
namespace Go.Sim
theorem M.card_steps (l:List M.Fc) (s:List M.Per) (p:M.Per) (w0:l.length≤maxLen∧∀ y,y∈l→y.wf) (w1:s.length≤maxLen∧∀ y,y∈s→M.PerWf y) (w2:M.PerWf p):M.xaL (l.map M.encF) (s.map M.encP) p.1 p.2=some true:=M.xrF l s p
end Go.Sim
end
noncomputable section
set_option maxRecDepth 10000
namespace Go.Proofs.YtoemghmemdnelaaGreatDoor.aggregateSteps
open Go.ChangeShapes Go.WideShapes Go.ChangeAt Go.RowKit Go.Sim
theorem contract (H:Type) (enc:TypeId×Value→H) (W:World) (base:Nat) (args:Array Value) (ds gs:List (DataW H)) (before:List MemPlace)
  (hval:∀ (j:Nat) t v,Tryz.f5.params[j]?=some t→args[j]?=some v→Value.okWide Tryz.prog W .any base t v)
  (hW:DataW.Whole enc Tryz.prog Tryz.f5.params.toList Rows.aggregateStepsSpec.vars false W args.toList ds gs before) (hL:laidMetH Tryz.prog Rows.aggregateStepsRow.laid W) (hsh:W.ShapedOpen Tryz.prog) :
  Calls Tryz.prog 5 args W fun e W'=>∃ v,e=.returned v∧Rows.aggregateStepsSpec.post enc Tryz.prog Tryz.f5 false true false false W args v W':=by
 have hW':=hW
 obtain ⟨p,q,hA0,hV,rfl,hfz,hnd⟩:=hW
 have hA:DataW.TrodAll enc Tryz.prog W 0 (fun _=>true) true Tryz.f5.params.toList args.toList ds p:=hA0
 have hAk:=hA
 rw [Tryz.params5] at hA hval
 obtain ⟨v0,vs0,d0,ds0,p0,q0,hargs,rfl,rfl,h0,r0⟩:=trodAll_cons hA
 obtain ⟨v1,vs1,d1,ds1,p1,q1,rfl,rfl,rfl,h1,r1⟩:=trodAll_cons r0
 obtain ⟨v2,vs2,d2,ds2,p2,q2,rfl,rfl,rfl,h2,r2⟩:=trodAll_cons r1
 obtain ⟨rfl,rfl,rfl⟩:=trodAll_nil r2
 obtain rfl:args=#[v0,v1,v2]:=by cases args;simp_all
 obtain ⟨rfl,rfl⟩:=trodVars_none hV
 obtain ⟨a0,rr0,b0,w0⟩:=xqR (hval 0 23 v0 rfl rfl) h0
 obtain ⟨a1,rr1,b1,w1⟩:=xqS (hval 1 33 v1 rfl rfl) h1
 obtain ⟨a2,rr2,b2,w2⟩:=xsn (hval 2 35 v2 rfl rfl) h2
 clear hA0
 have hI:ITryz W:=xts rfl (by kernel_rfl) hL hsh
 have hpl:=M.card_steps a0 a1 a2 w0 w1 w2
 have hg:Sim.Good Tryz.prog ITryz 5 [.list 3 (a0.map M.encF),.list 2 (a1.map M.encP),(.agg [.int .i64 a2.1,.int .i64 a2.2])] (.bool true):=M.xhD _ _ (by
  show some (_,AV.bool _)=_
  rw [hpl];rfl)
 have hrc:RC W (fun _=>False) noBox [v0,v1,v2] [.list 3 (a0.map M.encF),.list 2 (a1.map M.encP),(.agg [.int .i64 a2.1,.int .i64 a2.2])]:=by
  refine ⟨rfl,fun i hi=>?_⟩
  match i,hi with
  | 0,_=>exact rr0
  | 1,_=>exact rr1
  | 2,_=>exact rr2
 refine (hg.2 W (fun _=>False) _ hI (fun _ h=>h.elim) hrc).mono fun e W' ⟨v,he,hb,hr⟩=>?_
 subst he
 obtain rfl:=hr.bool_inv
 exact ⟨_,rfl,xrO rfl hW' ⟨rfl,rfl,rfl⟩ rfl Tryz.underlying4 (by simpa using xiV laidTryz hb (by kernel_rfl) hAk) hb⟩
noncomputable def wit:Array Value:=#[.slice none 0 0,.slice none 0 0,.agg #[.int .i64 0,.int .i64 0]]
theorem laid_met (os:Os):laidMet Tryz.prog Rows.aggregateStepsRow.laid ((laidWorld Tryz.prog Rows.aggregateStepsRow.laid os).forCall (fun _ _=>0) ⟨#[],wit,[]⟩).memory :=
 laidMet_of_run3 8 (by kernel_rfl) (by kernel_rfl) (by kernel_rfl)
theorem reads (os:Os) {H:Type} (enc:TypeId×Value→H):∃ places,DataW.whole enc Tryz.prog ((laidWorld Tryz.prog Rows.aggregateStepsRow.laid os).forCall (fun _ _=>0) ⟨#[],wit,[]⟩).memory Tryz.f5.params.toList Rows.aggregateStepsSpec.vars false wit.toList 8=some ([.nil,.nil,.agg [.lit (.int .i64 0),.lit (.int .i64 0)]],[],places) :=
 ⟨[],by kernel_rfl⟩
set_option maxRecDepth 100000 in
theorem lifted (os:Os) (started:os.Started) (H:Type) (enc:TypeId×Value→H) (F:Stop.Interp) :
  ReturnsInHanded {} Tryz.checked os 5 .any ((OpenSpec.ofChange Rows.aggregateStepsSpec).preRow enc Tryz.prog Tryz.f5 Rows.aggregateStepsRow.domain false Rows.aggregateStepsRow.laid) (((OpenSpec.ofChange Rows.aggregateStepsSpec).at F).post enc Tryz.prog Tryz.f5 false true false false):=by
 obtain ⟨places,hx⟩:=reads os enc
 refine returnsInHanded_of_row (C:=Tryz.checked) (s:=OpenSpec.ofChange Rows.aggregateStepsSpec) ownTryz started (by kernel_rfl) Tryz.func5
  (witness_row_at (enc:=enc) (C:=Tryz.checked) false (laidWorld Tryz.prog Rows.aggregateStepsRow.laid os) wit rfl (by kernel_rfl) (by kernel_rfl) (by kernel_rfl)
   (OpenSpec.preRow_of_cond 8 hx (by kernel_rfl) (fun k hk=>by cases hk) (by kernel_rfl) (laid_met os))) ?_
 intro W base args ds gs before hval hW _ _ _ hL hsh _
 exact contract H enc W base args ds gs before hval hW hL hsh
theorem said:Rows.AggregateStepsSaid :=
 OpenClaim.holds_of_cond 5 Tryz.f5 rfl rfl rfl rfl rfl rfl rfl ⟨rfl,rfl,rfl,rfl,rfl⟩ rfl rfl rfl rfl rfl (by kernel_rfl) Tryz.func5 (by kernel_rfl)
  (of_decide_eq_true (by kernel_rfl)) (by unfold Func.isWrapper;first|(rw [if_pos (by decide +kernel)];kernel_rfl)|(rw [if_neg (by decide +kernel)];exact ⟨rfl,rfl⟩))
  (fun os started H enc _ F=>by rw [OpenClaim.pre_eq_preRow];exact lifted os started H enc F)
theorem plain (f:FuncId) (fn:Func) (hf:Tryz.pinned.checked.prog.funcNamed "bitemporal/bitemporallaw26.AggregateSteps" = some f) (hfn:Tryz.pinned.checked.prog.funcs[f]?=some fn) :
  false=Tryz.pinned.checked.prog.looks []∧∀ (j:Nat) t,fn.params[j]?=some t→Tryz.pinned.checked.prog.wantsStandIn t=false:=by
 obtain rfl:f=5:=Option.some.inj ((show Tryz.prog.funcNamed "bitemporal/bitemporallaw26.AggregateSteps" = some 5 by kernel_rfl).symm.trans hf) |>.symm
 obtain rfl:fn=Tryz.f5:=(Option.some.inj (Tryz.func5.symm.trans hfn)).symm
 refine ⟨by kernel_rfl,fun j t ht=>?_⟩
 rw [Tryz.params5] at ht
 have hm:=Array.mem_of_getElem? ht
 have:([23,33,35]:List Nat).all (fun t=>!(Tryz.prog.wantsStandIn t))=true:=by kernel_rfl
 have:=List.all_eq_true.1 this t (by simpa using hm)
 show Tryz.prog.wantsStandIn t=false
 simpa using this
theorem card:Rows.AggregateStepsCardSaid :=
 Claim7.holds_tied_plain_at .later [] _ _ _ _ said (fun _ h=>by cases h) (by kernel_rfl) (fun _ h=>by cases h) aggregateSteps_row_tie rfl ⟨rfl,rfl⟩ (by kernel_rfl) rfl plain (by kernel_rfl)
end Go.Proofs.YtoemghmemdnelaaGreatDoor.aggregateSteps
end
