/- Part 16 of the proof of the law. -/
import Derived.Test.YtefdfdjimkinpaaGreatDoorTA15
import Derived.Test.YtefdfdjimkinpaaGreatDoorCards
import Derived.Test.YtefdfdjimkinpaaGreatDoorTie
import Derived.ChangeMaps5
import Derived.Deep.DeepHandedRow
import Derived.Stop.LaidErr
import Derived.Deep.DeepLaidRun
set_option linter.defProp false
set_option linter.unusedVariables false
set_option linter.unusedSimpArgs false
set_option linter.unusedSectionVars false
noncomputable section
set_option maxRecDepth 10000
namespace Go.Sim
open Go.RowKit Go.Proofs Go.ChangeShapes Go.WideShapes Go.ChangeAt
theorem xuO {P:Program} {w:World} (h:w.ShapedOpen P) (hg:P.globals.size<P.low):P.low<=w.heap.size:=by
 obtain ⟨o,o₀,h1,_,_⟩:=h.2 (P.low - 1) (by omega) (by unfold Program.low at hg |-;omega)
 rcases zK (P.low - 1) w.heap.size with h'|h'
 . omega
 . rw [Array.getElem?_eq_none h'] at h1;simp at h1
def xHR:DataW Unit->List Value
 | .lit (.int k n)=>[.int k n]
 | .agg l=>l.flatMap fun d=>match d with
  | .lit (.int k n)=>[.int k n]
  | .agg l'=>l'.flatMap fun d'=>match d' with
   | .lit (.int k n)=>[.int k n]
   | _=>[]
  | _=>[]
 | _=>[]
def xHQ (P:Program):List (String×DataW Unit)->Array Obj->Array Obj
 | [],h=>h
 | x::r,h=>xHQ P r (match P.globalNamed x.1 with
  | some g=>h.modify g fun o=>match o with
   | .cells _ t frozen=>.cells (xHR x.2).toArray t frozen
   | o=>o
  | none=>h)
def xHK (P:Program) (q:List (String×DataW Unit)) (os:Os):World :=
 { World.holding P os ⟨#[],#[],[]⟩ with heap:=xHQ P q (World.holding P os ⟨#[],#[],[]⟩).heap }
theorem xA7 {H:Type} {enc:TypeId×Value->H} {P:Program} {f:Func} {s:ChangeSpec} {W W':World} {args:Array Value} {ds:List (DataW H)} {q:List MemPlace} {tb:TypeId} (hs:s.vars=[])
  (hW:DataW.Whole enc P f.params.toList s.vars false W args.toList ds [] q) (J:(s.fn H ds).results=[.lit (.bool true)]/\(s.fn H ds).args=ds/\(s.fn H ds).vars=[]) (O:f.resultTypes=#[tb]) (Q:P.underlying tb=some .bool)
  (D:DataW.TrodAll enc P W' 0 (fun b=>decide (b<W.heap.size)) true f.params.toList args.toList ds q) (hb:Below W.heap.size W W'):s.post enc P f false true false false W args (.bool true) W':=by
 refine ⟨ds,[],q,[],q,[],hW,?_,?_,?_,hb.frame _,fun h=>by simp at h⟩
 . simp only [zF,J.1,O];exact trodAll_cons_mk (shut_bool Q _) trodAll_mk0
 . simpa [J.2.1] using D
 . simp only [zF,J.2.2,hs];rfl
theorem xpt {H:Type} {enc:TypeId×Value->H} {P:Program} {W W':World} (hl:laidOutB P=true) (hb:Below W.heap.size W W'):∀ {ts:List TypeId} {vs:List Value} {ds:List (DataW H)} {ps:List MemPlace},(ts.all fun t=>P.readableRec t&&decide (t<P.types.size))=true ->
  DataW.TrodAll enc P W 0 (fun _=>true) true ts vs ds ps->DataW.TrodAll enc P W' 0 (fun b=>decide (b<W.heap.size)) true ts vs ds ps
 | [],vs,ds,ps,_,h=>by
  obtain ⟨rfl,rfl,rfl⟩:=trodAll_nil h;exact trodAll_mk0
 | t::ts,vs,ds,ps,ht,h=>by
  have D:=h.lt;obtain ⟨v,O,d,J,p,q,rfl,rfl,rfl,hd,hr⟩:=trodAll_cons h;simp only [List.all_cons,zg,zm] at ht;exact trodAll_cons_mk (Below.trod hl ht.1.1 ht.1.2 hd hb fun x hx=>D x (by simp [hx])) (xpt hl hb ht.2 hr)
section
variable {H : Type} {enc : TypeId × Value -> H} {P : Program} {w : World} {base b n : Nat} {sp : Nat -> Bool} {held : Bool} {v : Value} {d : DataW H} {ps : List MemPlace} {t mu : TypeId} {R : List Ty}
def xHS (P:Program) (mu:TypeId) (R:List Ty):Prop:=(∃ N0,flat P mu N0 mu=some R)/\R.length=P.cellsOf mu/\0<R.length
theorem xzq (hm:xHS P mu R) {Ts:List Ty} (hf:flat P mu n t=some Ts) {fuel:Nat} {cs:List Value} {x:DataW H×List MemPlace} (hd:DataW.trod enc P w b sp held fuel t cs=some x):∃ xs,Opens R w Ts cs xs/\∀ μ:DataW H->Nat,Meas μ->AV.wts xs<=μ x.1:=by
 obtain ⟨⟨N0,h1⟩,h2,h3⟩:=hm;exact xnV h1 h2 h3 (SizeOf.sizeOf x.1+1) n t Ts hf fuel cs x (Nat.lt_succ_self _) hd
theorem xqE {R:List Ty} {α:Type} {e:α->AV} {wf:α->Prop} {es:List Ty} (hv:∀ x:AV,x.cells.length=es.length->x=xII x.cells->(∀ j,j<es.length->OfTy R (es.getD j .bool) (x.cells.getD j .top))->∃ a,x=e a/\wf a) {x:AV} (h:OfTy R (.slice es) x) :
  ∃ l:List α,x=.list es.length (l.map e)/\l.length<=maxLen/\∀ a,a∈l->wf a:=by
 cases h with
 | slice _ xs hn hl hx =>
  have:∀ xs:List AV,(∀ x,x∈xs->∃ a,x=e a/\wf a)->∃ l:List α,xs=l.map e/\∀ a,a∈l->wf a:=by
   intro xs;induction xs with
   | nil=>exact fun _=>⟨[],rfl,fun a h=>by simp at h⟩
   | cons x xs ih =>
    intro h;obtain ⟨a,rfl,ha⟩:=h x (by simp)
    obtain ⟨l,rfl,hl⟩:=ih fun y hy=>h y (by simp [hy])
    exact ⟨a::l,rfl,fun b hb=>(zD.1 hb).elim (fun he=>he▸ha) (fun hb=>hl b hb)⟩
  obtain ⟨l,rfl,hw⟩:=this xs fun x q=>hv x (hl x q).1 (hl x q).2 (fun j hj=>hx x j q hj)
  exact ⟨l,rfl,by simpa using hn,hw⟩
end
end Go.Sim
namespace Go.Sim
open Go.RowKit Go.Proofs Go.ChangeShapes Go.WideShapes Go.ChangeAt Go.Proofs.YtefdfdjimkinpaaGreatDoor
theorem xHW:laidOutB Tryz.prog=true:=by kernel_rfl
theorem xH0:ownKnob Tryz.prog.godebug=none:=by kernel_rfl
theorem xHx:Tryz.prog.globals.size<Tryz.prog.low:=of_decide_eq_true (by kernel_rfl)
noncomputable def xHL:Nat:=(Tryz.prog.globalNamed "internal/strconv.uint64pow10").getD 0
theorem xA8:Rows.laid_internal_strconv_uint64pow10=(Lib.tabData .u64 Lib.pow10Tab:DataW Unit):=by kernel_rfl
theorem xFT {W:World} {r:List (String×DataW Unit)} {a b:String×DataW Unit} (hl:r=[a,b,("internal/strconv.uint64pow10",Rows.laid_internal_strconv_uint64pow10)]) (hp:(r.all fun x=>x.2.handleName?.isNone)=true) (hL:laidMetH Tryz.prog r W) (q:W.ShapedOpen Tryz.prog):xIQ W:=by
 rw [MakeChecks.laidMetH_plain _ _ _ hp] at hL;subst hl;refine ⟨q,xuO q xHx,?_⟩;have h:=hL.tail.tail;rw [xA8] at h;exact Lib.tabIs_of_head (g:=xHL) (t:=(Tryz.prog.globals[xHL]?).map (·.type) |>.getD 0) (e:=171) (n:=20) (by kernel_rfl) (by kernel_rfl) (by kernel_rfl) (by kernel_rfl) (by kernel_rfl) (by kernel_rfl) h
def muT:TypeId:=30
def tyR:List Ty:=[.int .i64,.int .i64,.int .i64,.int .i64,.str,.str,.mu]
theorem xHZ:flat Tryz.prog muT 9 muT=some tyR:=by kernel_rfl
theorem recR:xHS Tryz.prog muT tyR:=⟨⟨9,xHZ⟩,by kernel_rfl,by decide⟩
def tyV:List Ty:=[.int .i64,.int .i64,.str]
def tyF:List Ty:=[.slice tyV,.int .i64,.int .i64]
def I64 (n:Int):Prop:=(Lit.int .i64 n).wf=true
def M.Fc.wf (x:M.Fc):Prop:=M.Row.wf x.r/\I64 x.p.1/\I64 x.p.2
theorem xC2 (x:AV) (hl:x.cells.length=tyV.length) (he:x=xII x.cells) (hx:∀ j,j<tyV.length->OfTy tyR (tyV.getD j .bool) (x.cells.getD j .top)):∃ a,x=M.encV a/\M.Val.wf a:=by
 generalize x.cells=cs at *;match cs,hl with
 | [c0,c1,c2],_ =>
  have h0:=hx 0 (by decide)
  have h1:=hx 1 (by decide)
  have h2:=hx 2 (by decide)
  change OfTy tyR (.int .i64) c0 at h0;change OfTy tyR (.int .i64) c1 at h1;change OfTy tyR .str c2 at h2;cases h0 with
  | int _ k hk=>cases h1 with
   | int _ i hi=>cases h2 with
    | str t ht=>exact ⟨⟨k,i,t⟩,he,hk,hi,ht⟩
theorem xC1 {x:AV} (h:OfTy tyR (.slice tyV) x):∃ l:M.Row,x=M.encR l/\M.Row.wf l:=by
 obtain ⟨l,rfl,h1,h2⟩:=xqE xC2 h;exact ⟨l,rfl,h1,h2⟩
theorem xCx (x:AV) (hl:x.cells.length=tyF.length) (he:x=xII x.cells) (hx:∀ j,j<tyF.length->OfTy tyR (tyF.getD j .bool) (x.cells.getD j .top)):∃ a,x=M.encF a/\M.Fc.wf a:=by
 generalize x.cells=cs at *;match cs,hl with
 | [c0,c1,c2],_ =>
  have h0:=hx 0 (by decide)
  have h1:=hx 1 (by decide)
  have h2:=hx 2 (by decide)
  change OfTy tyR (.slice tyV) c0 at h0;change OfTy tyR (.int .i64) c1 at h1;change OfTy tyR (.int .i64) c2 at h2;obtain ⟨l,rfl,hw⟩:=xC1 h0;cases h1 with
  | int _ k hk=>cases h2 with
   | int _ i hi=>exact ⟨⟨l,(k,i)⟩,he,hw,hk,hi⟩
theorem xB9:flat Tryz.prog muT 9 32=some [.int .i64,.int .i64]:=by kernel_rfl
def M.PerWf (p:M.Per):Prop:=(Lit.int .i64 p.1).wf=true/\(Lit.int .i64 p.2).wf=true
section
variable {H : Type} {enc : TypeId × Value -> H} {w : World} {base b : Nat} {sp : Nat -> Bool} {held : Bool} {v : Value} {d : DataW H} {ps : List MemPlace}
theorem xqo {P:Program} {t:TypeId} {n:Nat} {Ts:List Ty} {fs:Array Field} {mu:TypeId} {R:List Ty} (hm:xHS P mu R) (ht:P.underlying t=some (.struct fs)) (hf:flat P mu n t=some Ts) (q:Value.okWide P w .any base t v) (hd:DataW.Trod enc P w b sp held t v d ps) :
  ∃ cs:List AV,Rel w (fun _=>False) xIl v (.agg cs)/\cs.length=Ts.length/\(∀ j,j<Ts.length->OfTy R (Ts.getD j .bool) (cs.getD j .top))/\∀ μ:DataW H->Nat,Meas μ->AV.wts cs<=μ d:=by
 obtain ⟨vs,rfl,_⟩:=okWide_struct ht q;obtain ⟨fuel,D⟩:=hd;obtain ⟨xs,ha,hw⟩:=xzq hm hf D;obtain ⟨l1,l2⟩:=ha.len;have l1':vs.size=Ts.length:=by simpa [Value.cells] using l1
 refine ⟨xs,.agg vs xs (by omega) fun i hi=>?_,l2,fun j hj=>(ha.get j hj).2,fun μ hμ=>hw μ hμ⟩
 have:=(ha.get i (by omega)).1
 simpa [Value.cells,z7,zv] using this
theorem xCt (q:Value.okWide Tryz.prog w .any base 32 v) (hd:DataW.Trod enc Tryz.prog w b sp held 32 v d ps):∃ p:M.Per,Rel w (fun _=>False) xIl v (.agg [.int .i64 p.1,.int .i64 p.2])/\(∀ μ:DataW H->Nat,Meas μ->(AV.agg [.int .i64 p.1,.int .i64 p.2]).wt<=μ d)/\M.PerWf p:=by
 obtain ⟨cs,h,hl,hx,hB⟩:=xqo recR Tryz.underlying32 xB9 q hd;match cs,hl with
 | [c0,c1],_ =>
  have h0:=hx 0 (by decide)
  have h1:=hx 1 (by decide)
  change OfTy tyR (.int .i64) c0 at h0;change OfTy tyR (.int .i64) c1 at h1;cases h0 with
  | int _ n0 w0=>cases h1 with
   | int _ n1 w1=>exact ⟨(n0,n1),h,fun μ hμ=>hB μ hμ,w0,w1⟩
end
end Go.Sim
end
noncomputable section
namespace Go.Sim.M
open Go.RowKit Go.Sim.Srt
def xHE {α:Type} (c:α->α->Int) (l:List α):Prop:=l.Pairwise fun x y=>c x y<0
def Cm.self {α:Type} {c:α->α->Int} (h:Cm c) (x:α):c x x=0:=by have:=h.swap x x;omega
def xHE.nodup {α:Type} {c:α->α->Int} (hc:Cm c) {l:List α} (h:xHE c l):l.Nodup :=
 List.Pairwise.imp (fun {x y} q he=>by subst he;rw [hc.self] at q;omega) h
def xHE.sorted {α:Type} {c:α->α->Int} {l:List α} (h:xHE c l):Sorted c l:=List.Pairwise.imp (fun q=>by omega) h
def xmn {α:Type} {c:α->α->Int} (hc:Cm c) (h0:∀ x y,c x y=0->x=y) {l m:List α} (hl:xHE c l) (hm:xHE c m) (h:∀ x,x∈l↔x∈m):l=m :=
 xpl hc h0 ((List.perm_ext_iff_of_nodup (hl.nodup hc) (hm.nodup hc)).2 h) hl.sorted hm.sorted
def xBs {α:Type} {c:α->α->Int} (h0:∀ x y,c x y=0->x=y) {l:List α} (hs:Sorted c l) (hn:l.Nodup):xHE c l :=
 (hs.and hn).imp fun {x y} h=>by
  have:=h.1;have h2:=h.2;by_cases he:c x y=0
  . exact absurd (h0 x y he) h2
  . omega
def xyf (x y:Int):cmpI x y=if x<y then -1 else if y<x then 1 else 0:=rfl
def xoC {p q:Per}:cmpP p q<=0↔p.1<q.1\/p.1=q.1/\p.2<=q.2:=by
 unfold cmpP orI;simp only [xyf];repeat' split
 all_goals omega
def xp4 (p q:Per):cmpP q p=-(cmpP p q):=by
 unfold cmpP orI;simp only [xyf];repeat' split
 all_goals omega
def xFe:Cm cmpP:=⟨xp4,fun x y z h1 h2=>by rw [xoC] at *;omega⟩
def xnI (p q:Per) (h:cmpP p q=0):p=q:=by
 have h1:cmpP p q<=0:=by omega
 have h2:cmpP q p<=0:=by rw [xp4];omega
 rw [xoC] at h1 h2;exact Prod.ext (by omega) (by omega)
def xBr {p:Per} {l:List Per} (h:IsSpan (p::l)):IsSpan l:=⟨fun q hq=>h.1 q (by simp [hq]),(zN.1 h.2).2⟩
def xsY:∀ {A:List Per},IsSpan A->∀ t,A.countP (hasP · t)=if inL A t=true then 1 else 0
 | [],_,t=>by simp [xiC]
 | p::A,h,t=>by
  have ih:=xsY (xBr h) t;rw [List.countP_cons,ih,xjO];cases hp:hasP p t with
  | false=>simp
  | true=>rw [xqB h hp];simp
def xr7 {A:List Per} (h:IsSpan A) (h0:∀ t,inL A t=false):A=[]:=xlO h xmI fun t=>by rw [h0,xiC]
def xBw (N:Nat):∀ n:Nat,((List.range n).map fun h=>if h<N then 1 else 0).sum=min n N
 | 0=>by simp
 | n+1=>by rw [List.range_succ,zy,List.sum_append,xBw N n];simp;split<;>omega
structure IsLevs (N:Int->Nat) (P:List Per):Prop where
 sorted:Sorted cmpP P
 lev:∃ (A:Nat->List Per) (H:Nat),(∀ t,N t<=H)/\(∀ h,IsSpan (A h)/\∀ t,inL (A h) t=decide (h<N t))/\P.Perm ((List.range H).flatMap A)
def xkU (A:Nat->List Per) (H:Nat) (h0:∀ h,H<=h->A h=[]):∀ d,(List.range (H+d)).flatMap A=(List.range H).flatMap A
 | 0=>rfl
 | d+1=>by rw [<-Nat.add_assoc,List.range_succ,List.flatMap_append,xkU A H h0 d,zS,h0 (H+d) (by omega)];simp
def IsLevs.unique {N:Int->Nat} {P P':List Per} (h:IsLevs N P) (h':IsLevs N P'):P=P':=by
 obtain ⟨A,H,h1,h2,h3⟩:=h.lev;obtain ⟨A',H',D,q,J⟩:=h'.lev;obtain rfl:A=A':=funext fun k=>xlO (h2 k).1 (q k).1 fun t=>by rw [(h2 k).2,(q k).2]
 have nil:∀ K,(∀ t,N t<=K)->∀ k,K<=k->A k=[]:=fun K hK k hk=>xr7 (h2 k).1 fun t=>by rw [(h2 k).2];have:=hK t;simp;omega
 refine xpl xFe xnI (h3.trans (List.Perm.trans (.of_eq ?_) J.symm)) h.sorted h'.sorted;rcases Nat.le_total H H' with O|O
 . have:=xkU A H (nil H h1) (H' - H);rw [show H+(H' - H)=H' by omega] at this
   exact this.symm
 . have:=xkU A H' (nil H' D) (H - H');rw [show H'+(H - H')=H by omega] at this
   exact this
def IsLevs.count {N:Int->Nat} {P:List Per} (h:IsLevs N P) (t:Int):P.countP (hasP · t)=N t:=by
 obtain ⟨A,H,h1,h2,h3⟩:=h.lev;rw [h3.countP_eq,List.countP_flatMap];have:(List.countP (fun x=>hasP x t)∘A)=fun k=>if k<N t then 1 else 0:=funext fun k=>by
  show List.countP (hasP · t) (A k)=_;rw [xsY (h2 k).1,(h2 k).2];simp
 rw [this,xBw];have:=h1 t;omega
def IsLevs.valid {N:Int->Nat} {P:List Per} (h:IsLevs N P):∀ p,p∈P->pv p=true:=fun p hp=>by
 obtain ⟨A,H,h1,h2,h3⟩:=h.lev;obtain ⟨k,_,hk⟩:=y9.1 (h3.mem_iff.1 hp);exact (h2 k).1.1 p hk
def xto {A:List Per} {N:Int->Nat} {k:Nat} (hs:IsSpan A) (hN:∀ t,inL A t=decide (k<N t)) {p:Per} (hp:p∈A):(∀ t,p.1<=t->t<p.2->k<N t)/\N (p.1 - 1)<=k/\N p.2<=k:=by
 have hv:=xb5.1 (hs.1 p hp);refine ⟨fun t h1 h2=>?_,?_,?_⟩
 . have:inL A t=true:=xfh.2 ⟨p,hp,hs.1 p hp,h1,h2⟩;rw [hN] at this;simpa using this
 . have:inL A (p.1 - 1)=false:=by
    cases hc:inL A (p.1 - 1) with
    | false=>rfl
    | true =>
     obtain ⟨q,hq,O,h1,h2⟩:=xfh.1 hc;have hne:p≠q:=fun e=>by subst e;omega
     rcases pairwise_mem hs.2 hp hq hne with h|h<;>omega
   rw [hN] at this;simpa using this
 . have:inL A p.2=false:=by
    cases hc:inL A p.2 with
    | false=>rfl
    | true =>
     obtain ⟨q,hq,O,h1,h2⟩:=xfh.1 hc;have hne:p≠q:=fun e=>by subst e;omega
     rcases pairwise_mem hs.2 hp hq hne with h|h<;>omega
   rw [hN] at this;simpa using this
where
 pairwise_mem {l:List Per} (h:l.Pairwise fun p q=>p.2<q.1) {p q:Per} (hp:p∈l) (hq:q∈l) (hne:p≠q):p.2<q.1\/q.2<p.1:=by
  induction l with
  | nil=>simp at hp
  | cons x l ih =>
   obtain ⟨h1,h2⟩:=zN.1 h;rcases zD.1 hp with e1|J
   . rcases zD.1 hq with e2|D
     . exact absurd (e1.trans e2.symm) hne
     . exact .inl (e1▸h1 q D)
   . rcases zD.1 hq with e2|D
     . exact .inr (e2▸h1 p J)
     . exact ih h2 J D
def cnt (l:List Fc) (r:Row) (t:Int):Nat:=l.countP fun f=>decide (f.r=r)&&hasP f.p t
def xHF (l:List Fc) (R:List Row):Prop:=xHE cmpR R/\∀ r,r∈R↔∃ f,f∈l/\f.r=r/\pv f.p=true
def xth {l:List Fc} {r:Row} {t:Int}:0<cnt l r t↔∃ f,f∈l/\f.r=r/\hasP f.p t=true:=by
 unfold cnt;rw [List.countP_pos_iff];simp
def xn4 {p:Per} (h:pv p=true):hasP p p.1=true:=by
 have:=xb5.1 h;exact xcw.2 ⟨h,by omega,by omega⟩
def xt0 {p:Per} {t:Int} (h:hasP p t=true):pv p=true:=(xcw.1 h).1
def xnn {l:List Fc} {r:Row}:(∃ f,f∈l/\f.r=r/\pv f.p=true)↔∃ t,0<cnt l r t:=by
 constructor
 . rintro ⟨f,h1,h2,h3⟩;exact ⟨f.p.1,xth.2 ⟨f,h1,h2,xn4 h3⟩⟩
 . rintro ⟨t,h⟩;obtain ⟨f,h1,h2,h3⟩:=xth.1 h;exact ⟨f,h1,h2,xt0 h3⟩
def xHF.unique {l l':List Fc} {R R':List Row} (h:xHF l R) (h':xHF l' R') (hc:∀ r t,cnt l r t=cnt l' r t):R=R' :=
 xmn xoV (fun _ _=>xlW) h.1 h'.1 fun r=>by rw [h.2,h'.2,xnn,xnn];simp only [hc]
def xHn (R:List Row) (L:Row->List Per):List Fc:=R.flatMap fun r=>(L r).map fun p=>⟨r,p⟩
def xgx (a b:List Fc) (r:Row) (t:Int):cnt (a++b) r t=cnt a r t+cnt b r t:=List.countP_append
def xBV {a b:List Fc} (h:a.Perm b) (r:Row) (t:Int):cnt a r t=cnt b r t:=h.countP_eq _
def xyh (r':Row) (P:List Per) (r:Row) (t:Int):cnt (P.map fun p=>(⟨r',p⟩:Fc)) r t=if r'=r then P.countP (hasP · t) else 0:=by
 unfold cnt;rw [List.countP_map];by_cases h:r'=r
 . rw [if_pos h];congr 1;funext p;simp [h]
 . rw [if_neg h,List.countP_eq_zero];simp [h]
def xnJ (L:Row->List Per) (r:Row) (t:Int):∀ R:List Row,R.Nodup->cnt (xHn R L) r t=if r∈R then (L r).countP (hasP · t) else 0
 | [],_=>by simp [xHn,cnt]
 | r'::R,h=>by
  obtain ⟨h1,h2⟩:=List.nodup_cons.1 h;have e:xHn (r'::R) L=((L r').map fun p=>(⟨r',p⟩:Fc))++xHn R L:=by simp [xHn]
  rw [e,xgx,xyh,xnJ L r t R h2];by_cases hr:r'=r
  . subst hr;simp [h1]
  . have:¬ r=r':=fun e=>hr e.symm
    simp [hr,this]
def xHu (l B:List Fc):Prop:=∃ R L,xHF l R/\(∀ r,r∈R->IsLevs (cnt l r) (L r))/\B=xHn R L
def xHC (l B:List Fc):Prop:=∃ R L,xHF l R/\(∀ r,r∈R->IsSpan (L r)/\∀ t,inL (L r) t=decide (0<cnt l r t))/\B=xHn R L
def xn8 {R:List Row} {L L':Row->List Per} (h:∀ r,r∈R->L r=L' r):xHn R L=xHn R L':=by
 unfold xHn;induction R with
 | nil=>rfl
 | cons r R ih=>rw [zS,zS,h r (by simp),ih fun x hx=>h x (by simp [hx])]
def xHu.unique {l l' B B':List Fc} (h:xHu l B) (h':xHu l' B') (hc:∀ r t,cnt l r t=cnt l' r t):B=B':=by
 obtain ⟨R,L,h1,h2,rfl⟩:=h;obtain ⟨R',L',D,q,rfl⟩:=h';obtain rfl:=h1.unique D hc;refine xn8 fun r hr=>(h2 r hr).unique ?_
 have:=q r hr;rwa [<-show cnt l r=cnt l' r from funext fun t=>hc r t] at this
def xHC.unique {l l' B B':List Fc} (h:xHC l B) (h':xHC l' B') (hc:∀ r t,cnt l r t=cnt l' r t):B=B':=by
 obtain ⟨R,L,h1,h2,rfl⟩:=h;obtain ⟨R',L',D,q,rfl⟩:=h';obtain rfl:=h1.unique D hc;exact xn8 fun r hr=>xlO (h2 r hr).1 (q r hr).1 fun t=>by rw [(h2 r hr).2,(q r hr).2,hc]
def xHF.zero {l:List Fc} {R:List Row} (h:xHF l R) {r:Row} (hr:r∉R) (t:Int):cnt l r t=0:=by
 cases hc:cnt l r t with
 | zero=>rfl
 | succ n=>exact absurd ((h.2 r).2 (xnn.2 ⟨t,by omega⟩)) hr
def xHu.cntB {l B:List Fc} (h:xHu l B) (r:Row) (t:Int):cnt B r t=cnt l r t:=by
 obtain ⟨R,L,h1,h2,rfl⟩:=h;rw [xnJ L r t R (h1.1.nodup xoV)];split
 . rename_i hr;exact (h2 r hr).count t
 . rename_i hr;exact (h1.zero hr t).symm
def xnO {R:List Row} {L:Row->List Per} {f:Fc} (h:f∈xHn R L):f.r∈R/\f.p∈L f.r:=by
 obtain ⟨r,hr,h⟩:=y9.1 h;obtain ⟨p,hp,rfl⟩:=zL.1 h;exact ⟨hr,hp⟩
def xHu.valid {l B:List Fc} (h:xHu l B) {f:Fc} (hf:f∈B):pv f.p=true/\∃ g,g∈l/\g.r=f.r:=by
 obtain ⟨R,L,h1,h2,rfl⟩:=h;obtain ⟨a,b⟩:=xnO hf;refine ⟨(h2 _ a).valid _ b,?_⟩;obtain ⟨g,g1,g2,_⟩:=(h1.2 _).1 a;exact ⟨g,g1,g2⟩
def psOf (l:List Fc) (r:Row):List Per:=(l.filter fun f=>decide (f.r=r)&&pv f.p).map (·.p)
def xsL (l:List Fc) (r:Row) (t:Int):(psOf l r).countP (hasP · t)=cnt l r t:=by
 unfold psOf cnt;rw [List.countP_map,List.countP_filter];refine List.countP_congr fun f _=>?_
 simp only [Function.comp,zg,zm];constructor
 . rintro ⟨h1,h2,_⟩;exact ⟨h2,h1⟩
 . rintro ⟨h1,h2⟩;exact ⟨h2,h1,xt0 h2⟩
def xCz {l:List Fc} {r:Row}:∀ p,p∈psOf l r->pv p=true:=fun p hp=>by
 obtain ⟨f,hf,rfl⟩:=zL.1 hp;have:=List.mem_filter.1 hf;simp only [zg] at this;exact this.2.2
def xA9 (l:List Fc) (r:Row):(psOf l r).length<=l.length:=by unfold psOf;rw [za];exact List.length_filter_le _ _
def xza {ps:List Per} {t:Int} {k:Nat} (h1:k<ps.countP (hasP · t)) (h2:ps.countP (hasP · (t - 1))<=k):t∈ps.map (·.1):=by
 have:∃ p,p∈ps/\hasP p t=true/\hasP p (t - 1)=false:=by
  refine Classical.byContradiction fun hn=>?_
  have:ps.countP (hasP · t)<=ps.countP (hasP · (t - 1)):=List.countP_mono_left fun p hp h=>by
   cases hc:hasP p (t - 1) with
   | true=>rfl
   | false=>exact absurd ⟨p,hp,h,hc⟩ hn
  omega
 obtain ⟨p,hp,a,b⟩:=this;obtain ⟨hv,x,y⟩:=xcw.1 a;have:¬ p.1<=t - 1:=fun h=>by rw [xcw.2 ⟨hv,h,by omega⟩] at b;cases b
 exact zL.2 ⟨p,hp,by omega⟩
def xys {ps A:List Per} {k:Nat} (hs:IsSpan A) (hN:∀ t,inL A t=decide (k<ps.countP (hasP · t))):A.length<=ps.length:=by
 have hn:(A.map (·.1)).Nodup:=by
  unfold List.Nodup;rw [List.pairwise_map];refine List.Pairwise.imp_of_mem (fun {p q} hp hq h=>?_) hs.2
  have:=xb5.1 (hs.1 p hp);omega
 have:(A.map (·.1)) ⊆ ps.map (·.1):=fun t ht=>by
  obtain ⟨p,hp,rfl⟩:=zL.1 ht;obtain ⟨a,b,_⟩:=xto (N:=fun t=>ps.countP (hasP · t)) hs hN hp
  have hv:=xb5.1 (hs.1 p hp);exact xza (a p.1 (Int.le_refl _) (by omega)) b
 have:=hn.length_le_of_subset this;simpa using this
def IsLevs.len {ps P:List Per} (h:IsLevs (fun t=>ps.countP (hasP · t)) P):P.length<=ps.length*ps.length:=by
 obtain ⟨A,H,h1,h2,h3⟩:=h.lev;have hx:P.length=((List.range ps.length).flatMap A).length:=by
  rw [h3.length_eq];have nil:∀ k,ps.length<=k->A k=[]:=fun k hk=>xr7 (h2 k).1 fun t=>by
   rw [(h2 k).2];have:=List.countP_le_length (p:=(hasP · t)) (l:=ps);simp;omega
  have q:∀ k,H<=k->A k=[]:=fun k hk=>xr7 (h2 k).1 fun t=>by
   rw [(h2 k).2];have:=h1 t;simp;omega
  rcases Nat.le_total H ps.length with D|D
  . have:=xkU A H q (ps.length - H);rw [show H+(ps.length - H)=ps.length by omega] at this
    rw [this]
  . have:=xkU A ps.length nil (H - ps.length);rw [show ps.length+(H - ps.length)=H by omega] at this
    rw [this]
 rw [hx];have:=xib (g:=A) (c:=ps.length) (List.range ps.length) fun k _=>xys (h2 k).1 (h2 k).2
 simpa using this
def xqg {L:Row->List Per}:∀ {R:List Row} {l:List Fc},R.Nodup->(∀ r,r∈R->(L r).length<=(psOf l r).length*(psOf l r).length)->(xHn R L).length<=l.length*l.length
 | [],l,_,_=>by simp [xHn]
 | r::R,l,hn,h=>by
  obtain ⟨n1,n2⟩:=List.nodup_cons.1 hn;have e:xHn (r::R) L=((L r).map fun p=>(⟨r,p⟩:Fc))++xHn R L:=by simp [xHn]
  let l2:=l.filter fun f=>!decide (f.r=r)
  have D:∀ r',r'∈R->psOf l2 r'=psOf l r':=fun r' q=>by
   have hne:r'≠r:=fun e=>n1 (e▸q)
   unfold psOf;simp only [l2,List.filter_filter];congr 1;refine List.filter_congr fun f _=>?_
   by_cases hf:f.r=r'
   . have:¬ f.r=r:=fun e=>hne (hf▸e)
     simp [hf,hne]
   . simp [hf]
  have ih:=xqg (L:=L) (l:=l2) n2 fun r' q=>by rw [D r' q];exact h r' (by simp [q])
  have h1:=h r (by simp)
  have hl:(psOf l r).length+l2.length<=l.length:=by
   unfold psOf;rw [za];have:=List.length_eq_countP_add_countP (fun f:Fc=>decide (f.r=r)) (l:=l)
   have a1:(l.filter fun f=>decide (f.r=r)&&pv f.p).length<=l.countP fun f=>decide (f.r=r):=by
    rw [<-List.countP_eq_length_filter];exact List.countP_mono_left fun f _ hf=>by simp only [zg] at hf;exact hf.1
   have a2:l2.length=l.countP fun f=>¬ decide (f.r=r)=true:=by
    rw [List.countP_eq_length_filter];simp [l2]
   omega
  rw [e,z8,za];have m1:=Nat.mul_le_mul hl hl;have m2:(psOf l r).length*(psOf l r).length+l2.length*l2.length<=((psOf l r).length+l2.length)*((psOf l r).length+l2.length):=by
   rw [Nat.add_mul,Nat.mul_add,Nat.mul_add];omega
  omega
def xHu.len {l B:List Fc} (h:xHu l B):B.length<=l.length*l.length:=by
 obtain ⟨R,L,h1,h2,rfl⟩:=h;refine xqg (h1.1.nodup xoV) fun r hr=>?_
 have:=h2 r hr;rw [show cnt l r=fun t=>(psOf l r).countP (hasP · t) from funext fun t=>(xsL l r t).symm] at this
 exact this.len
end Go.Sim.M
end
noncomputable section
set_option maxRecDepth 100000
namespace Go.Sim.M
open Go.RowKit
def Stp {σ ρ:Type} (I:σ->Prop) (Q:ρ->Prop) (X:Option (σ⊕ρ)):Prop:=(∃ s,X=some (.inl s)/\I s)\/∃ r,X=some (.inr r)/\Q r
def Stp.br {σ ρ:Type} {I:σ->Prop} {Q:ρ->Prop} {c:Bool} {a b:Option (σ⊕ρ)} (h1:c=true->Stp I Q a) (h2:c=false->Stp I Q b):Stp I Q (br c a b):=by
 cases c with
 | true=>exact h1 rfl
 | false=>exact h2 rfl
def Stp.inl {σ ρ:Type} {I:σ->Prop} {Q:ρ->Prop} {s:σ} (h:I s):Stp I Q (some (.inl s):Option (σ⊕ρ)):=Or.inl ⟨s,rfl,h⟩
def Stp.inr {σ ρ:Type} {I:σ->Prop} {Q:ρ->Prop} {r:ρ} (h:Q r):Stp I Q (some (.inr r):Option (σ⊕ρ)):=Or.inr ⟨r,rfl,h⟩
def Ans {α:Type} (Q:α->Prop) (X:Option α):Prop:=∃ r,X=some r/\Q r
def Ans.br {α:Type} {Q:α->Prop} {c:Bool} {a b:Option α} (h1:c=true->Ans Q a) (h2:c=false->Ans Q b):Ans Q (br c a b):=by
 cases c with
 | true=>exact h1 rfl
 | false=>exact h2 rfl
def Ans.some {α:Type} {Q:α->Prop} {r:α} (h:Q r):Ans Q (some r):=⟨r,rfl,h⟩
def Ans.mono {α:Type} {Q Q':α->Prop} {X:Option α} (h:Ans Q X) (hq:∀ r,Q r->Q' r):Ans Q' X:=⟨h.choose,h.choose_spec.1,hq _ h.choose_spec.2⟩
def xdV {σ ρ:Type} {step:σ->Option (σ⊕ρ)} (I:Nat->σ->Prop) (N:Nat) (Q:ρ->Prop) (hs:∀ k s,k<N->I k s->Stp (I (k+1)) Q (step s))
  (he:∀ s,I N s->Stp (fun _=>False) Q (step s)):∀ (d k:Nat) (s:σ),k+d=N->I k s->Ans Q (Iter step s)
 | 0,k,s,h,hp=>by
  obtain rfl:k=N:=by omega
  rcases he s hp with ⟨_,_,h⟩|⟨r,e,hq⟩
  . exact absurd h id
  . exact ⟨r,xah e,hq⟩
 | d+1,k,s,h,hp=>by
  rcases hs k s (by omega) hp with ⟨s',e,q⟩|⟨r,e,hq⟩
  . obtain ⟨x,ex,hx⟩:=xdV I N Q hs he d (k+1) s' (by omega) q
    exact ⟨x,(xaq e).trans ex,hx⟩
  . exact ⟨r,xah e,hq⟩
inductive IsEx:AV->Prop
 | mk (op i vk vi:Int) (vt nm:List UInt8) (args:List AV) (h:∀ x,x∈args->IsEx x):IsEx (.agg [.int .i64 op,.int .i64 i,.int .i64 vk,.int .i64 vi,.str vt,.str nm,.list 7 args])
def IsEx.get {x:AV} (h:IsEx x):∃ (op i vk vi:Int) (vt nm:List UInt8) (args:List AV),x=.agg [.int .i64 op,.int .i64 i,.int .i64 vk,.int .i64 vi,.str vt,.str nm,.list 7 args]/\∀ y,y∈args->IsEx y:=by
 cases h with
 | mk op i vk vi vt nm args h=>exact ⟨op,i,vk,vi,vt,nm,args,rfl,h⟩
mutual
def AV.nd:AV->Nat
 | .agg cs=>AV.nds cs
 | .list _ xs=>AV.nds xs+1
 | _=>0
def AV.nds:List AV->Nat
 | []=>0
 | x::xs=>AV.nd x+AV.nds xs
end
def xqO:∀ {xs:List AV} {x:AV},x∈xs->AV.nd x<=AV.nds xs
 | y::xs,x,h=>by
  unfold AV.nds;rcases zD.1 h with rfl|h
  . omega
  . have:=xqO h;omega
def xo5 (op i vk vi:Int) (vt nm:List UInt8) (args:List AV):AV.nd (.agg [.int .i64 op,.int .i64 i,.int .i64 vk,.int .i64 vi,.str vt,.str nm,.list 7 args])=AV.nds args+1:=by
 simp only [AV.nd,AV.nds];omega
def xvX {x:AV} (h:IsEx x):1<=AV.nd x:=by
 obtain ⟨op,i,vk,vi,vt,nm,args,rfl,_⟩:=h.get;rw [xo5];omega
def xoT:∀ {xs:List AV},(∀ x,x∈xs->IsEx x)->xs.length<=AV.nds xs
 | [],_=>zR _
 | x::xs,h=>by
  have h1:=xvX (h x List.mem_cons_self);have h2:=xoT fun y hy=>h y (List.mem_cons_of_mem _ hy)
  unfold AV.nds;rw [zG];omega
def xrT:∀ (k:Nat) (xs:List AV) (h:k<xs.length),AV.nds (xs.take (k+1))=AV.nds (xs.take k)+AV.nd xs[k]
 | 0,x::xs,h=>by simp [AV.nds]
 | k+1,x::xs,h=>by
  have ih:=xrT k xs (by simpa using h)
  simp only [List.take_succ_cons,AV.nds,List.getElem_cons_succ];omega
def xoc:∀ (k:Nat) (xs:List AV),AV.nds (xs.take k)<=AV.nds xs
 | 0,xs=>by simp [AV.nds]
 | k+1,[]=>by simp [AV.nds]
 | k+1,x::xs=>by
  have ih:=xoc k xs;simp only [List.take_succ_cons,AV.nds];omega
def xHG (xs:List AV):(AV.agg xs).cells=xs:=rfl
def cE0 (a b c d e f g:AV):[a,b,c,d,e,f,g].getD 0 .top=a:=rfl
def cE1 (a b c d e f g:AV):[a,b,c,d,e,f,g].getD 1 .top=b:=rfl
def cE2 (a b c d e f g:AV):[a,b,c,d,e,f,g].getD 2 .top=c:=rfl
def cE3 (a b c d e f g:AV):[a,b,c,d,e,f,g].getD 3 .top=d:=rfl
def cE4 (a b c d e f g:AV):[a,b,c,d,e,f,g].getD 4 .top=e:=rfl
def cE5 (a b c d e f g:AV):[a,b,c,d,e,f,g].getD 5 .top=f:=rfl
def cE6 (a b c d e f g:AV):[a,b,c,d,e,f,g].getD 6 .top=g:=rfl
def lE (a b c d e f g:AV):([a,b,c,d,e,f,g].length==7)=true:=rfl
def toIE (n:Int):(AV.int .i64 n).toInt=n:=rfl
def toSE (n:List UInt8):(AV.str n).toStr=n:=rfl
def toLE (k:Nat) (n:List AV):(AV.list k n).toList=n:=rfl
structure Exr where
 op:Int
 ei:Int
 vk:Int
 vi:Int
 vt:List UInt8
 nm:List UInt8
 ar:List AV
end Go.Sim.M
end
noncomputable section
set_option maxRecDepth 10000
namespace Go.Sim
open Go.RowKit Go.Proofs Go.ChangeShapes Go.WideShapes Go.ChangeAt Go.Proofs.YtefdfdjimkinpaaGreatDoor
theorem xyQ:∀ {xs:List AV} {x:AV},x∈xs->AV.wt x<=AV.wts xs
 | y::xs,x,h=>by
  simp only [AV.wts];rcases zD.1 h with rfl|h
  . omega
  . have:=xyQ h;omega
def EX (xs:List AV):Prop:=∀ x,x∈xs->x.cells.length=7/\x=xII x.cells/\∀ j,j<7->OfTy tyR (tyR.getD j .bool) (x.cells.getD j .top)
theorem xFW {a:AV} (h:OfTy tyR .mu a):∃ xs,a=.list 7 xs/\EX xs:=by
 cases h with
 | mu xs h hl hx=>exact ⟨xs,rfl,fun x hm=>⟨(hl x hm).1,(hl x hm).2,fun j hj=>hx x j hm hj⟩⟩
theorem xvu {cs:List AV} (hl:cs.length=7) (h3:∀ j,j<7->OfTy tyR (tyR.getD j .bool) (cs.getD j .top)):∃ (n0 n1 n2 n3:Int) (s4 s5:List UInt8) (ys:List AV),cs=[.int .i64 n0,.int .i64 n1,.int .i64 n2,.int .i64 n3,.str s4,.str s5,.list 7 ys]/\EX ys:=by
 match cs,hl with
 | [c0,c1,c2,c3,c4,c5,c6],_ =>
  have h0:=h3 0 (by decide)
  have h1:=h3 1 (by decide)
  have h2':=h3 2 (by decide)
  have h3':=h3 3 (by decide)
  have h4:=h3 4 (by decide)
  have h5:=h3 5 (by decide)
  have h6:=h3 6 (by decide)
  change OfTy tyR (.int .i64) c0 at h0;change OfTy tyR (.int .i64) c1 at h1;change OfTy tyR (.int .i64) c2 at h2';change OfTy tyR (.int .i64) c3 at h3';change OfTy tyR .str c4 at h4;change OfTy tyR .str c5 at h5;change OfTy tyR .mu c6 at h6;obtain ⟨ys,rfl,hy⟩:=xFW h6;cases h0 with
  | int _ n0 _=>cases h1 with
   | int _ n1 _=>cases h2' with
    | int _ n2 _=>cases h3' with
     | int _ n3 _=>cases h4 with
      | str s4 _=>cases h5 with
       | str s5 _=>exact ⟨n0,n1,n2,n3,s4,s5,ys,rfl,hy⟩
theorem xC9:∀ (n:Nat) (xs:List AV),AV.wts xs<n->EX xs->∀ x,x∈xs->M.IsEx x
 | 0,xs,h,_=>absurd h (Nat.not_lt_zero _)
 | n+1,xs,h,hE=>fun x hx=>by
  obtain ⟨h1,h2,h3⟩:=hE x hx;have hw:=xyQ hx;obtain ⟨n0,n1,n2,n3,s4,s5,ys,e,hy⟩:=xvu h1 h3;have hx:x=.agg [.int .i64 n0,.int .i64 n1,.int .i64 n2,.int .i64 n3,.str s4,.str s5,.list 7 ys]:=by rw [h2,e];rfl
  have wx:AV.wt x=1+(1+(1+(1+(s4.length+1+(s5.length+1+(AV.wts ys+1+0)))))):=by rw [hx];rfl
  exact hx▸M.IsEx.mk n0 n1 n2 n3 s4 s5 ys (xC9 n ys (by omega) hy)
theorem xCa:flat Tryz.prog muT 9 25=some [.slice [.int .i64],.slice tyF]:=by kernel_rfl
theorem xC0 (x:AV) (hl:x.cells.length=[Ty.int .i64].length) (he:x=xII x.cells) (hx:∀ j,j<[Ty.int .i64].length->OfTy tyR ([Ty.int .i64].getD j .bool) (x.cells.getD j .top)):∃ a,x=M.encN a/\I64 a:=by
 generalize x.cells=cs at *;match cs,hl with
 | [c0],_ =>
  have h0:=hx 0 (by decide)
  change OfTy tyR (.int .i64) c0 at h0;cases h0 with
  | int _ k hk=>exact ⟨k,he,hk⟩
section
variable {H : Type} {enc : TypeId × Value -> H} {w : World} {base b : Nat} {sp : Nat -> Bool} {held : Bool} {v : Value} {d : DataW H} {ps : List MemPlace}
theorem xCu (q:Value.okWide Tryz.prog w .any base 25 v) (hd:DataW.Trod enc Tryz.prog w b sp held 25 v d ps):∃ r:List Int×List M.Fc,Rel w (fun _=>False) xIl v (.agg [.list 1 (r.1.map M.encN),.list 3 (r.2.map M.encF)])/\(∀ μ:DataW H->Nat,Meas μ->(AV.agg [.list 1 (r.1.map M.encN),.list 3 (r.2.map M.encF)]).wt<=μ d)/\(∀ y,y∈r.2->y.wf):=by
 obtain ⟨cs,h,hl,hx,hB⟩:=xqo recR Tryz.underlying25 xCa q hd;match cs,hl with
 | [c0,c1],_ =>
  have h0:=hx 0 (by decide)
  have h1:=hx 1 (by decide)
  change OfTy tyR (.slice [.int .i64]) c0 at h0;change OfTy tyR (.slice tyF) c1 at h1;obtain ⟨l0,rfl,_⟩:=xqE (es:=[.int .i64]) xC0 h0;obtain ⟨l1,rfl,w1⟩:=xqE (es:=tyF) xCx h1;exact ⟨(l0,l1),h,fun μ hμ=>hB μ hμ,w1.2⟩
theorem xD4 (q:Value.okWide Tryz.prog w .any base 30 v) (hd:DataW.Trod enc Tryz.prog w b sp held 30 v d ps):∃ e:M.Exr,Rel w (fun _=>False) xIl v (.agg [.int .i64 e.op,.int .i64 e.ei,.int .i64 e.vk,.int .i64 e.vi,.str e.vt,.str e.nm,.list 7 e.ar])/\(∀ μ:DataW H->Nat,Meas μ->(AV.agg [.int .i64 e.op,.int .i64 e.ei,.int .i64 e.vk,.int .i64 e.vi,.str e.vt,.str e.nm,.list 7 e.ar]).wt<=μ d)/\(∀ x,x∈e.ar->M.IsEx x):=by
 obtain ⟨cs,h,hl,hx,hB⟩:=xqo recR Tryz.underlying30 xHZ q hd;obtain ⟨n0,n1,n2,n3,s4,s5,ys,rfl,hy⟩:=xvu hl hx;exact ⟨⟨n0,n1,n2,n3,s4,s5,ys⟩,h,fun μ hμ=>hB μ hμ,xC9 _ ys (Nat.lt_succ_self _) hy⟩
end
end Go.Sim
end
noncomputable section
set_option maxRecDepth 100000
namespace Go.Sim.M
open Go.RowKit Go.Sim.Srt
abbrev Asc (l:List Int):Prop:=l.Pairwise fun x y=>x<y
structure StepI (N:Int->Int) (T:Int) (S:List Per):Prop where
 asc:S.Pairwise fun a b=>a.1<b.1
 mem:∀ s,s∈S↔0<=s.1/\s.1<T/\s.2=N s.1/\(s.1=0\/N (s.1 - 1)≠s.2)
 last:0<T->∃ S' f,S=S'++[(f,N (T - 1))]
def StepI.nil (N:Int->Int):StepI N 0 []:=⟨List.Pairwise.nil,fun s=>by simp;omega,fun h=>by omega⟩
def putS (S:List Per) (f n:Int):List Per:=match S.getLast? with
 | some s=>if s.2=n then S else S++[(f,n)]
 | none=>S++[(f,n)]
def StepI.unique {N:Int->Int} {T:Int} {S S':List Per} (h:StepI N T S) (h':StepI N T S'):S=S' :=
 xmn xFe xnI (h.asc.imp fun {x y} q=>by
  have h1:cmpP x y<=0:=xoC.2 (.inl q);by_cases h0:cmpP x y=0
  . have:=xnI x y h0;subst this;omega
  . omega) (h'.asc.imp fun {x y} q=>by
  have h1:cmpP x y<=0:=xoC.2 (.inl q);by_cases h0:cmpP x y=0
  . have:=xnI x y h0;subst this;omega
  . omega) fun s=>by rw [h.mem,h'.mem]
def StepI.put {N:Int->Int} {T T':Int} {S:List Per} (h:StepI N T S) (h0:0<=T) (q:T<T') (hc:∀ t,T<=t->t<T'->N t=N T):StepI N T' (putS S T (N T)):=by
 rcases Int.lt_or_eq_of_le h0 with hp|hz
 . obtain ⟨S',f,rfl⟩:=h.last hp;unfold putS;rw [List.getLast?_append];simp only [List.getLast?_singleton,Option.some_or];by_cases he:N (T - 1)=N T
   . rw [if_pos he];refine ⟨h.asc,fun s=>?_,fun _=>⟨S',f,by rw [he,hc (T' - 1) (by omega) (by omega)]⟩⟩
     rw [h.mem];constructor
     . rintro ⟨a,b,c,d⟩;exact ⟨a,by omega,c,d⟩
     . rintro ⟨a,b,c,d⟩;refine ⟨a,?_,c,d⟩;rcases Int.lt_or_le s.1 T with hs|hs
       . exact hs
       . exfalso;have e1:=hc s.1 hs b;rcases d with d|d
         . omega
         . rcases Int.lt_or_eq_of_le hs with h2|h2
           . have e2:=hc (s.1 - 1) (by omega) (by omega)
             exact d (by rw [e2,c,e1])
           . rw [<-h2] at d c;exact d (by rw [he,c])
   . rw [if_neg he];refine ⟨?_,fun s=>?_,fun _=>⟨_,T,by rw [hc (T' - 1) (by omega) (by omega)]⟩⟩
     . rw [List.pairwise_append];refine ⟨h.asc,List.pairwise_singleton _ _,fun a ha b hb=>?_⟩
       simp only [zw] at hb;subst hb;exact ((h.mem a).1 ha).2.1
     . rw [zH,h.mem,zw];constructor
       . rintro (⟨a,b,c,d⟩|rfl)
         . exact ⟨a,by omega,c,d⟩
         . exact ⟨h0,q,rfl,.inr he⟩
       . rintro ⟨a,b,c,d⟩;rcases Int.lt_or_le s.1 T with hs|hs
         . exact .inl ⟨a,hs,c,d⟩
         . right;have e1:=hc s.1 hs b;rcases Int.lt_or_eq_of_le hs with h2|h2
           . exfalso;have e2:=hc (s.1 - 1) (by omega) (by omega)
             rcases d with d|d
             . omega
             . exact d (by rw [e2,c,e1])
           . exact Prod.ext h2.symm (by rw [c,e1])
 . subst hz;have hS:S=[]:=by
    rw [List.eq_nil_iff_forall_not_mem];intro s hs;have:=(h.mem s).1 hs;omega
   subst hS;refine ⟨by simp [putS],fun s=>?_,fun _=>⟨[],0,by simp [putS];exact (hc (T' - 1) (by omega) (by omega)).symm⟩⟩
   simp only [putS,List.getLast?_nil,zV,zw];constructor
   . rintro rfl;exact ⟨Int.le_refl _,q,rfl,.inl rfl⟩
   . rintro ⟨a,b,c,d⟩;have e1:=hc s.1 a b;rcases Int.lt_or_eq_of_le a with h2|h2
     . exfalso;have e2:=hc (s.1 - 1) (by omega) (by omega)
       rcases d with d|d
       . omega
       . exact d (by rw [e2,c,e1])
     . exact Prod.ext h2.symm (by rw [c,e1])
def xrY (S:List Per) (f n:Int):(putS S f n).length<=S.length+1:=by
 unfold putS;repeat' split
 all_goals simp
def sumC (l:List Cnt) (t:Int):Int:=(l.map fun c=>if hasP c.1 t=true then c.2 else 0).sum
def xuz (c:Cnt) (l:List Cnt) (t:Int):sumC (c::l) t=(if hasP c.1 t=true then c.2 else 0)+sumC l t:=by simp [sumC]
def xuA (ps:List Per) (t:Int):sumC (ps.map fun p=>(p,(1:Int))) t=(ps.countP (hasP · t):Nat):=by
 induction ps with
 | nil=>rfl
 | cons p ps ih =>
  rw [zW,xuz,ih,List.countP_cons];split<;>simp_all<;>omega
def xsW {α:Type} (l:List α):l=[]\/∃ m a,l=m++[a]:=by
 rcases List.eq_nil_or_concat l with h|⟨m,a,h⟩
 . exact .inl h
 . exact .inr ⟨m,a,by rw [h,List.concat_eq_append]⟩
def xyE (S:List Per) (f n:Int) (hS:S.length<=16777216):∃ p,xbc S.length f n (S.map encP)=some p/\br p.1 p.2.1.1 p.2.2.1=(putS S f n).length/\br p.1 p.2.1.2 p.2.2.2=(putS S f n).map encP:=by
 have m1:(S.length+1)*16<=140737488355328:=by omega
 have m2:S.length+1<=4611686018427387904:=by omega
 rcases xsW S with rfl|⟨S',s,rfl⟩
 . refine ⟨(false,(0,[]),(1,[encP (f,n)])),?_,rfl,rfl⟩;unfold xbc xhB xfP;simp [xaR,encP,sUF]
 . have hk:IntKind.i64.wrap (((S'++[s]).length:Int) - 1)=((S'.length:Nat):Int):=by
    rw [z8,xaK (by simp<;>omega) (by simp at hS |-<;>omega)];simp
   have g1:((S'++[s]).length:Int)>0:=by simp<;>omega
   have g2:(S'.length:Int)<((S'++[s]).length:Int):=by simp<;>omega
   have g3:S'.length<(S'++[s]).length:=by simp
   have gf:((S'++[s]).map encP).getD S'.length .top=encP s:=by
    rw [xac _ _ _ (by simp)];simp
   have hl:(S'++[s]).getLast?=some s:=by simp
   by_cases he:s.2=n
   . refine ⟨(true,((S'++[s]).length,(S'++[s]).map encP),(0,[])),?_,?_,?_⟩
     . unfold xbc xhB xfP;simp only [hk,g1,g2,g3,gf,sBU,cP0,cP1,lP,sP,sP0,sP1,he]
     . simp only [xaa,putS,hl,if_pos he,sUF]
     . simp only [xaa,putS,hl,if_pos he,sUF]
   . have he':(s.2==n)=false:=by simp [he]
     refine ⟨(false,(0,[]),((S'++[s]).length+1,(S'++[s]).map encP++[encP (f,n)])),?_,?_,?_⟩
     . unfold xbc xhB xfP;simp only [hk,g1,g2,g3,gf,sBU,cP0,cP1,lP,sP,sP0,sP1,he',m1,m2];rfl
     . simp only [xad,putS,hl,if_neg he,sUF];simp
     . simp only [xad,putS,hl,if_neg he,sUF];simp
def Tame (l:List Cnt):Prop:=l.length<=262144/\∀ c,c∈l->-1099511627776<=c.2/\c.2<=1099511627776
end Go.Sim.M
end
noncomputable section
set_option maxRecDepth 100000
namespace Go.Sim.M
open Go.RowKit Go.Sim.Srt Go.Sort
def chg (c:Cnt):List Per:=if pv c.1=true then [(c.1.1,c.2),(c.1.2,-c.2)] else []
def xyc {l:List Cnt}:∀ s,s∈l.flatMap chg->0<=s.1/\s.1<=1099511627776:=fun s hs=>by
 obtain ⟨c,hc,h⟩:=y9.1 hs;unfold chg at h;split at h
 . rename_i hv;have:=xb5.1 hv;simp only [zD,List.not_mem_nil,or_false] at h;rcases h with rfl|rfl<;>dsimp only<;>omega
 . simp at h
def xDA (c:Cnt):(chg c).length<=2:=by unfold chg;split<;>simp
def sumS (S:List Per) (t:Int):Int:=(S.map fun s=>if s.1<=t then s.2 else 0).sum
def xrt (a b:List Per) (t:Int):sumS (a++b) t=sumS a t+sumS b t:=by simp [sumS]
def xCX {a b:List Int} (h:a.Perm b):a.sum=b.sum:=by
 induction h with
 | nil=>rfl
 | cons x _ ih=>simp [ih]
 | swap x y l=>simp;omega
 | trans _ _ h1 h2=>rw [h1,h2]
def xBv {a b:List Per} (h:a.Perm b) (t:Int):sumS a t=sumS b t:=xCX (h.map _)
def xwf (t:Int):∀ l:List Cnt,sumS (l.flatMap chg) t=sumC l t
 | []=>rfl
 | c::l=>by
  rw [zS,xrt,xwf t l,xuz];congr 1;unfold chg;cases hv:pv c.1 with
  | false=>simp [sumS,hasP,hv]
  | true =>
   have:=xb5.1 hv;simp only [if_true,sumS,zW,zX,List.sum_cons,List.sum_nil,hasP,hv,Bool.true_and,zg,zm];by_cases h1:c.1.1<=t<;>by_cases h2:c.1.2<=t
   . rw [if_pos h1,if_pos h2,if_neg (by omega)];omega
   . rw [if_pos h1,if_neg h2,if_pos (by omega)];omega
   . omega
   . rw [if_neg h1,if_neg h2,if_neg (by omega)];omega
def sum0:∀ L:List Per,(L.map fun _=>(0:Int)).sum=0
 | []=>rfl
 | _::L=>by rw [zW,List.sum_cons,sum0 L];rfl
def preS (S:List Per) (i:Nat):Int:=((S.take i).map (·.2)).sum
def xul (S:List Per) (i:Nat) (h:i<S.length):preS S (i+1)=preS S i+S[i].2:=by
 unfold preS;rw [List.take_add_one,zf h,zy,List.sum_append];simp
def xCw (S:List Per) (i:Nat) (hi:i<=S.length) (t:Int) (h1:∀ k (h:k<S.length),k<i->S[k].1<=t) (h2:∀ k (h:k<S.length),i<=k->t<S[k].1):preS S i=sumS S t:=by
 have e:S=S.take i++S.drop i:=(List.take_append_drop i S).symm
 conv=>rhs;rw [e]
 rw [xrt];have a1:sumS (S.take i) t=preS S i:=by
  unfold sumS preS;congr 1;refine List.map_congr_left fun s hs=>?_
  obtain ⟨k,hk,rfl⟩:=zq.1 hs;rw [zu] at hk;rw [List.getElem_take,if_pos (h1 k (by omega) (by omega))]
 have a2:sumS (S.drop i) t=0:=by
  unfold sumS;have:(S.drop i).map (fun s=>if s.1<=t then s.2 else 0)=(S.drop i).map fun _=>(0:Int):=by
   refine List.map_congr_left fun s hs=>?_
   obtain ⟨k,hk,rfl⟩:=zq.1 hs;rw [y7] at hk;have:=h2 (i+k) (by omega) (by omega)
   rw [List.getElem_drop,if_neg (by omega)]
  rw [this];exact sum0 _
 omega
def xv2 {B:Int} (hB:0<=B) (S:List Per) (h:∀ s,s∈S->-B<=s.2/\s.2<=B):∀ i,i<=S.length->-(B*i)<=preS S i/\preS S i<=B*i
 | 0,_=>by simp [preS]
 | i+1,hi=>by
  have ih:=xv2 hB S h i (by omega)
  have hs:=h S[i] (zp (by omega))
  rw [xul S i (by omega),show B*((i+1:Nat):Int)=B*(i:Int)+B by rw [Int.natCast_add,Int.mul_add];simp]
  omega
def toS (e:Per):TyS:=(Fin.ofNat 1099511627777 e.1.toNat,e.2)
def ofS (x:TyS):Per:=((x.1.val:Int),x.2)
def xDx {e:Per} (h1:0<=e.1) (h2:e.1<=1099511627776):ofS (toS e)=e:=by grind [ofS,toS]
def xEp (E:List Per) (h:∀ e,e∈E->0<=e.1/\e.1<=1099511627776):(E.map encP).all isS=true/\∃ S:List Per,srtS (E.map encP)=S.map encP/\S.Perm E/\S.Pairwise fun x y=>x.1<=y.1:=by
 refine ⟨?_,(pdqL cmpS (E.map toS)).map ofS,?_,?_,?_⟩
 . rw [zJ];intro x hx;obtain ⟨e,he,rfl⟩:=zL.1 hx;have:=h e he;show (decide _&&decide _)=true;rw [decide_eq_true this.1,decide_eq_true this.2];rfl
 . unfold srtS;have e1:(E.map encP).map decS=E.map toS:=by rw [List.map_map];rfl
   rw [e1,List.map_map];rfl
 . have hp:=((xl1 cmpS swoS (E.map toS)).1).map ofS;have e2:(E.map toS).map ofS=E:=by
    rw [List.map_map]
    conv=>rhs;rw [<-List.map_id E]
    refine List.map_congr_left fun e he=>?_
    exact xDx (h e he).1 (h e he).2
   rwa [e2] at hp
 . rw [List.pairwise_map];refine (xrj cmpS swoS (E.map toS)).imp fun {x y} q=>?_
   show ((x.1.val:Nat):Int)<=((y.1.val:Nat):Int);unfold cmpS at q;omega
def xDX (n o:Nat):xhb n o=xc0 n o 0:=rfl
def xr9 (l:List Cnt) (hl:l.length<=1048576) (ht:∀ c,c∈l->-1099511627776<=c.2/\c.2<=1099511627776):Iter (xd6 (l.map encC) ((l.length:Nat):Int)) ((0:Nat),(0:Int),[])=some ((l.flatMap (fun (f:Cnt)=>chg f)).length,(l.flatMap (fun (f:Cnt)=>chg f)).map encP):=by
 refine xg2 l (fun (f:Cnt)=>chg f) encP 2 (fun f hf=>?_) (fun n h D hD=>?_) (fun D=>?_)
 . cases q:(pv (f).1)<;>simp [chg,q]
 . have h1:(n:Int)<(l.length:Int):=by omega
   have m1:(D.length+2)*16<=140737488355328:=by omega
   have m2:D.length+2<=4611686018427387904:=by omega
   have gf:(l.map encC).getD n .top=encC l[n]:=xac _ _ _ h;have hm:=ht l[n] (zp h);have hw:IntKind.i64.wrap (0 - l[n].2)=-l[n].2:=by rw [xaK (by omega) (by omega)];omega
   simp only [xd6,xjD,sBU,h,h1,gf,cC0,cC1,cC2,lC,sC,sC3,sC2,xf4,hw,m1,m2,xHp (n:=n) (by omega)]
   cases q:(pv (l[n]).1)<;>simp [encP,xaa,xad,encR,chg,q,sUF]
 . simp only [xd6,xjD,za,zz,zn,xad,sUF]
def xrK (S:List Per) (hS:S.length<=1048576) (hb:∀ s,s∈S->-1099511627776<=s.2/\s.2<=1099511627776) (on:Nat) (at':Int) (ox:List AV):∀ (d i:Nat),i+d=S.length->∃ j:Nat,i<=j/\j<=S.length/\(∀ k (h:k<S.length),i<=k->k<j->S[k].1=at')/\(∀ h:j<S.length,S[j].1≠at') /\
  Iter (xc0 S.length on at') (preS S i,(i:Int),S.map encP,ox)=some (preS S j,(j:Int),S.map encP,ox)
 | 0,i,h=>by
  refine ⟨i,zd _,by omega,fun k _ h1 h2=>by omega,fun h=>by omega,xah ?_⟩
  have i1:¬ (i:Int)<(S.length:Int):=by omega
  simp only [xc0,xhp,xgS,i1,zn,xad,sUF]
 | d+1,i,h=>by
  have hi:i<S.length:=by omega
  have i1:(i:Int)<(S.length:Int):=by omega
  have gf:(S.map encP).getD i .top=encP S[i]:=xac _ _ _ hi;by_cases he:S[i].1=at'
  . obtain ⟨j,h1,h2,h3,h4,h5⟩:=xrK S hS hb on at' ox d (i+1) (by omega)
    refine ⟨j,by omega,h2,fun k hk a b=>?_,h4,?_⟩
    . rcases Nat.lt_or_eq_of_le a with a|a
      . exact h3 k hk a b
      . subst a;exact he
    . have hp:=xv2 (B:=1099511627776) (by omega) S hb i (by omega)
      have hs:=hb S[i] (zp hi);rw [xaq (s':=(preS S (i+1),((i+1:Nat):Int),S.map encP,ox)) ?_,h5];simp only [xc0,xhp,xgS,sBU,hi,i1,gf,cP0,cP1,lP,sP,sP0,sP1,he,xHp (n:=i) (by omega),xul S i hi]
      rw [xaK (by omega) (by omega)]
  . have he':(S[i].1==at')=false:=by simp [he]
    refine ⟨i,zd _,by omega,fun k _ h1 h2=>by omega,fun _=>he,xah ?_⟩
    simp only [xc0,xhp,xgS,sBU,hi,i1,gf,cP0,cP1,lP,sP,sP0,sP1,he']
def xij (l:List Cnt) (hl:Tame l):∃ S,xaf (l.map encC)=some (S.map encP)/\StepI (sumC l) 1099511627776 S/\S.length<=2*l.length+1:=by
 have aw:=hl.1;have e0:=xr9 l (by omega) hl.2
 have hE:=xib (g:=chg) (c:=2) l fun c _=>xDA c
 obtain ⟨ai,S,hS,hp,an⟩:=xEp (l.flatMap chg) xyc;have ag:S.length=(l.flatMap chg).length:=hp.length_eq;have Q:∀ s,s∈S->0<=s.1/\s.1<=1099511627776:=fun s hs=>xyc s (hp.mem_iff.1 hs)
 have hb:∀ s,s∈S->-1099511627776<=s.2/\s.2<=1099511627776:=fun s hs=>by
  obtain ⟨c,hc,h⟩:=y9.1 (hp.mem_iff.1 hs);have:=hl.2 c hc;unfold chg at h;split at h
  . simp only [zD,List.not_mem_nil,or_false] at h;rcases h with rfl|rfl<;>dsimp only<;>omega
  . simp at h
 have hN:∀ t,sumS S t=sumC l t:=fun t=>by rw [xBv hp,xwf]
 have J:∀ a b (ha:a<S.length) (hb:b<S.length),a<=b->S[a].1<=S[b].1:=fun a b ha hb ao=>by
  rcases Nat.lt_or_eq_of_le ao with h|h
  . exact zC.1 an a b ha hb h
  . subst h;exact Int.le_refl _
 let T:Nat->Int:=fun i=>if h:i<S.length then S[i].1 else 1099511627776
 have step:∀ (out:List Per) (i j:Nat) (at':Int),0<=at'->i<=j->j<=S.length->StepI (sumC l) at' out->at'<1099511627776->(∀ k (h:k<S.length),k<i->S[k].1<=at')->(∀ k (h:k<S.length),i<=k->at'<=S[k].1)->(∀ k (h:k<S.length),i<=k->k<j->S[k].1=at')->(∀ h:j<S.length,S[j].1≠at') ->
   preS S j=sumC l at'/\StepI (sumC l) (T j) (putS out at' (preS S j))/\at'<T j/\∀ k (h:k<S.length),k<j->S[k].1<=at':=fun out i j at' h0 ah hj O hF aa aj al hne=>by
  have a1:∀ k (h:k<S.length),k<j->S[k].1<=at':=fun k h hk=>by
   rcases zK k i with h1|h1
   . exact aa k h h1
   . rw [al k h h1 hk];exact Int.le_refl _
  have a2:∀ k (h:k<S.length),j<=k->at'<S[k].1:=fun k h hk=>by
   have D:j<S.length:=by omega
   have b1:=aj j D ah;have b2:=hne D;have b3:=J j k D h hk;omega
  have hT:at'<T j:=by
   simp only [T];split
   . rename_i h;exact a2 j h (zd _)
   . exact hF
  have ab:∀ t,at'<=t->t<T j->preS S j=sumC l t:=fun t h1 h2=>by
   rw [<-hN];refine xCw S j hj t (fun k h hk=>by have:=a1 k h hk;omega) fun k h hk=>?_
   have D:j<S.length:=by omega
   have b3:=J j k D h hk;simp only [T,dif_pos D] at h2;omega
  have e:=ab at' (Int.le_refl _) hT;refine ⟨e,?_,hT,a1⟩;rw [e];exact O.put h0 hT fun t h1 h2=>by rw [<-ab t h1 h2,e]
 have ac:∀ (out:List Per) (f n:Int),out.length<=2*l.length+1->∃ p,xbc out.length f n (out.map encP)=some p/\br p.1 p.2.1.1 p.2.2.1=(putS out f n).length/\br p.1 p.2.1.2 p.2.2.2=(putS out f n).map encP:=fun out f n h=>xyE out f n (by omega)
 obtain ⟨j0,_,af,h3,h4,e1⟩:=xrK S (by omega) hb 0 0 ([]:List AV) S.length 0 (by omega)
 obtain ⟨_,am,_,ap⟩:=step [] 0 j0 0 (Int.le_refl _) (zR _) af (.nil _) (by omega) (fun k _ h=>by omega) (fun k h _=>(Q _ (zp h)).1) h3 h4
 obtain ⟨p0,ad,Y,V⟩:=ac [] 0 (preS S j0) (by simp)
 have o0:putS [] 0 (preS S j0)=[(0,preS S j0)]:=rfl;obtain ⟨r,hr,out,rfl,O,ae⟩:=xrM (step:=xd7 S.length)
  (fun s=>∃ (out:List Per) (i:Nat),s=(out.length,preS S i,(i:Int),S.map encP,out.map encP)/\i<=S.length/\StepI (sumC l) (T i) out/\out.length<=i+1/\∀ k (h:k<S.length) (hi:i<S.length),k<i->S[k].1<=S[i].1) (fun s=>(S.length - s.2.2.1.toNat)) (fun r=>∃ out:List Per,r=(out.length,out.map encP)/\StepI (sumC l) 1099511627776 out/\out.length<=2*l.length+1)
  (by
   rintro _ ⟨out,i,rfl,hi,W,aq,aa⟩;by_cases q:i<S.length
   . have i1:(i:Int)<(S.length:Int):=by omega
     have gf:(S.map encP).getD i .top=encP S[i]:=xac _ _ _ q;have Z:T i=S[i].1:=dif_pos q;by_cases hF:S[i].1<1099511627776
     . left;obtain ⟨j,a1,a2,a3,a4,a5⟩:=xrK S (by omega) hb out.length S[i].1 (out.map encP) (S.length - i) i (by omega)
       rw [Z] at W;obtain ⟨b1,b2,b3,b4⟩:=step out i j S[i].1 (Q _ (zp q)).1 a1 a2 W hF (fun k h hk=>J k i h q (by omega)) (fun k h hk=>J i k q h hk) a3 a4
       have ah:i<j:=by
        rcases Nat.lt_or_eq_of_le a1 with h|h
        . exact h
        . subst h;exact absurd rfl (a4 q)
       obtain ⟨p,ad,Y,V⟩:=ac out S[i].1 (preS S j) (by omega)
       have au:=xrY out S[i].1 (preS S j);refine ⟨((putS out S[i].1 (preS S j)).length,preS S j,(j:Int),S.map encP,(putS out S[i].1 (preS S j)).map encP),?_,⟨_,j,rfl,a2,b2,by omega,fun k h hj hk=>J k j h hj (by omega)⟩,by dsimp only;rw [zO,zO];omega⟩
       simp only [xd7,xho,xcq,xgR,xdf,xf9,xga,xeN,sBU,q,i1,gf,cP0,cP1,lP,sP,sP0,sP1,hF,a5,ad,Y,V]
     . right;have ak:S[i].1=1099511627776:=by have:=(Q _ (zp q)).2;omega
       refine ⟨(out.length,out.map encP),?_,out,rfl,by rw [<-ak,<-Z];exact W,by omega⟩
       simp only [xd7,xho,xcq,xgR,xdf,xf9,xga,xeN,sBU,q,i1,gf,cP0,cP1,lP,sP,sP0,sP1,hF]
   . right;have i1:¬ (i:Int)<(S.length:Int):=by omega
     have Z:T i=1099511627776:=dif_neg q;refine ⟨(out.length,out.map encP),?_,out,rfl,by rw [<-Z];exact W,by omega⟩
     simp only [xd7,xho,xcq,xgR,xdf,xf9,xga,xeN,sBU,i1])
  (([(0,preS S j0)]:List Per).length,preS S j0,(j0:Int),S.map encP,([(0,preS S j0)]:List Per).map encP) ⟨[(0,preS S j0)],j0,rfl,af,am,by simp,fun k h hj hk=>J k j0 h hj (by omega)⟩
 refine ⟨out,?_,O,ae⟩;have d1:(l.flatMap chg).length<4611686018427387904:=by omega
 have d2:((l.flatMap chg).length).beq (l.flatMap chg).length=true:=Nat.beq_refl _;have e1':Iter (xhb (l.flatMap chg).length 0) ((0:Int),(0:Int),S.map encP,[])=some (preS S j0,(j0:Int),S.map encP,[]):=by
  rw [xDX,<-ag];exact e1
 rw [ag] at hr;unfold xaf xpm;have hp1':xbc 0 0 (preS S j0) []=some p0:=ad;rw [o0] at Y V;simp only [xji,xoo,xgg,xoq,xgT,xnv,xeo,za,e0,zi,zl,xaa,ai,hS,d1,d2,e1',hp1',Y,V,hr,zo,zT,sOO,sUF]
end Go.Sim.M
end
noncomputable section
set_option maxRecDepth 100000
namespace Go.Sim.M
open Go.RowKit Go.Sim.Srt
def xH5 {n:Nat} (h:n+1<=4611686018427387904):IntKind.i64.wrap (((n+1:Nat):Int) - 1)=(n:Int):=by rw [xaK (by omega) (by omega)];omega
def tkP (p:Per):List.take 1 (encP p).cells=[.int .i64 p.1]:=rfl
def dpP (p:Per):List.drop 2 (encP p).cells=[]:=rfl
def aggP (a b:Int):AV.agg [.int .i64 a,.int .i64 b]=encP (a,b):=rfl
def xCg {α:Type} (l:List α) (x d:α):(l++[x]).getD l.length d=x:=by simp
def xEf {α:Type} (l:List α) (x y:α):(l++[x]).set l.length y=l++[y]:=by simp
def xHq (st:List Per):List Int:=st.flatMap fun s=>List.replicate s.2.toNat s.1
def xg1 (st:List Per) (f m:Int):xHq (st++[(f,m)])=xHq st++List.replicate m.toNat f:=by simp [xHq]
def StOk (st:List Per):Prop:=∀ s,s∈st->1<=s.2
def StOk.len {st:List Per} (h:StOk st):st.length<=(xHq st).length:=by
 unfold xHq;induction st with
 | nil=>simp
 | cons s st ih =>
  have h1:=h s (by simp)
  have:=ih fun s hs=>h s (by simp [hs])
  rw [zS,z8,zG,List.length_replicate];omega
def xtq (D n:Int) (v:Nat) (k t2 f:Int) (q:List Per) (ti:Nat) (J:ti<q.length) (hf:q[ti].1=f) (K:Nat) (hK:K<=1048576):∀ (d j:Nat) (ox:List Per) (vo:Nat),j+d=K->ox.length+d<=1099511627776 ->
  Iter (xb3 D n v ti k (K:Int)) ((j:Int),t2,q.length,v,ox.length,vo,v,q.map encP,vo,ox.map encP)=some (t2,v,q.length,vo+d,(ox++List.replicate d (f,D)).length,q.map encP,v,(ox++List.replicate d (f,D)).map encP,vo+d)
 | 0,j,ox,vo,h,hb=>by
  obtain rfl:j=K:=by omega
  refine xah ?_;simp only [xb3,xhO,zz,zn,xad,List.replicate_zero,zF,Nat.add_zero,sUF]
 | d+1,j,ox,vo,h,hb=>by
  have i1:(j:Int)<(K:Int):=by omega
  have gf:(q.map encP).getD ti .top=encP q[ti]:=xac _ _ _ J;have m1:(ox.length+1)*16<=140737488355328:=by omega
  have m2:ox.length+1<=4611686018427387904:=by omega
  have tk:List.take q.length (q.map encP)=q.map encP:=zj (by simp)
  rw [xaq (s':=(((j+1:Nat):Int),t2,q.length,v,(ox++[(f,D)]).length,vo+1,v,q.map encP,vo+1,(ox++[(f,D)]).map encP)) ?_,xtq D n v k t2 f q ti J hf K hK d (j+1) (ox++[(f,D)]) (vo+1) (by omega) (by rw [z8,zk];omega)]
  . rw [zx,show [(f,D)]++List.replicate d (f,D)=List.replicate (d+1) (f,D) from rfl,show vo+1+d=vo+(d+1) by omega]
  . simp only [xb3,xhO,sBU,i1,J,gf,cP0,cP1,lP,sP,sP0,sP1,hf,m1,m2,tk,xHp (n:=j) (by omega)]
    simp [encP]
def xyI {α:Type} (n:Nat) (a:α):(List.replicate n a).reverse=List.replicate n a:=List.reverse_replicate ..
def xtp (q:Int) (n:Nat):∀ (c:Nat) (D:List Per) (h:Nat) (ox:List Per) (v vo:Nat),D.length<=c->StOk D->(xHq D).length=h->n<=h->h<=1048576->ox.length+h<=1099511627776 ->
  ∃ (J O:List Per) (Q:Nat),Iter (xbH q (n:Int)) ((h:Int),D.length,v,ox.length,vo,v,D.map encP,vo,ox.map encP)=some ((n:Int),v,J.length,Q,O.length,J.map encP,v,O.map encP,Q) /\
   StOk J/\xHq J=(xHq D).take n/\O=ox++(((xHq D).drop n).reverse.map fun f=>(f,q))
 | c,D,h,ox,v,vo,hc,hs,hh,hn,hb,ho=>by
  by_cases ab:n=h
  . subst ab;refine ⟨D,ox,vo,xah ?_,hs,?_,?_⟩
    . have i1:¬ ((n:Int)>(n:Int)):=by omega
      simp only [xbH,xeD,i1,zn,xad,sUF]
    . rw [zj (by omega)]
    . rw [zr (by omega)];simp
  . have ac:n<h:=by omega
    rcases xsW D with rfl|⟨st,⟨f,m⟩,rfl⟩
    . simp [xHq] at hh;omega
    . have hm:=hs (f,m) (by simp)
      dsimp only at hm;have W:StOk st:=fun s h=>hs s (by simp [h])
      have Z:(xHq st).length+m.toNat=h:=by rw [<-hh,xg1,z8,List.length_replicate]
      obtain ⟨M,rfl⟩:∃ M:Nat,m=(M:Int):=⟨m.toNat,by omega⟩
      rw [zO] at Z;have sl:=hs.len;rw [z8,zk] at hc sl;rw [hh] at sl;have L1:(st++[(f,(M:Int))]).length=st.length+1:=by simp
      have i1:(h:Int)>(n:Int):=by omega
      have w1:IntKind.i64.wrap (((st.length+1:Nat):Int) - 1)=(st.length:Int):=xH5 (by omega)
      have w2:IntKind.i64.wrap ((h:Int) - (n:Int))=((h - n:Nat):Int):=by rw [xaK (by omega) (by omega)];omega
      have i2:(st.length:Int)<((st.length+1:Nat):Int):=by omega
      have i3:st.length<(st++[(f,(M:Int))]).length:=by omega
      have g0:(st++[(f,(M:Int))])[st.length]'i3=(f,(M:Int)):=by simp
      have gf:((st++[(f,(M:Int))]).map encP).getD st.length .top=encP (f,(M:Int)):=by rw [xac _ _ _ i3,g0]
      have tk:List.take (st.length+1) ((st++[(f,(M:Int))]).map encP)=(st++[(f,(M:Int))]).map encP:=zj (by simp)
      have V:∀ x:AV,((st++[(f,(M:Int))]).map encP).set st.length x=st.map encP++[x]:=fun x=>by
       rw [zy];have:=xEf (st.map encP) (encP (f,(M:Int))) x;rwa [za] at this
      have gl:∀ x:AV,(st.map encP++[x]).getD st.length .top=x:=fun x=>by have:=xCg (st.map encP) x .top;rwa [za] at this
      have tl:∀ x:AV,List.take st.length (st.map encP++[x])=st.map encP:=fun x=>by
       have:=List.take_left' (l₁:=st.map encP) (l₂:=[x]) (i:=st.length) (by simp)
       exact this
      by_cases hk:M<=h - n
      ·
       have i4:¬ ((h - n:Nat):Int)<(M:Int):=by omega
       have e1:=xtq q (n:Int) v (M:Int) (h:Int) f (st++[(f,(M:Int))]) st.length i3 (by rw [g0]) M (by omega) M 0 ox vo (by omega) (by omega)
       rw [L1] at e1;obtain ⟨J,O,Q,e2,h1,h2,h3⟩:=xtp q n (c - 1) st (h - M) (ox++List.replicate M (f,q)) v (vo+M) (by omega) W (by omega) (by omega) (by omega) (by rw [z8,List.length_replicate];omega)
       refine ⟨J,O,Q,(xaq (s':=(((h - M:Nat):Int),st.length,v,(ox++List.replicate M (f,q)).length,vo+M,v,st.map encP,vo+M,(ox++List.replicate M (f,q)).map encP)) ?_).trans e2,h1,?_,?_⟩
       . have w3:IntKind.i64.wrap ((h:Int) - (M:Int))=((h - M:Nat):Int):=by rw [xaK (by omega) (by omega)];omega
         have w4:IntKind.i64.wrap ((M:Int) - (M:Int))=0:=by rw [Int.sub_self];rfl
         have i5:(st.length:Int)<=((st.length+1:Nat):Int):=by omega
         have e1:Iter (xb3 q (n:Int) v st.length (M:Int) (M:Int)) ((0:Int),(h:Int),st.length+1,v,ox.length,vo,v,(st++[(f,(M:Int))]).map encP,vo,ox.map encP)=_:=e1;simp only [xbH,xeD,xcW,xb2,xdW,xdX,xab,xcy,xgo,xaA,sBU,L1,i1,i2,w1,w2,w3,w4,i4,i5,gf,cP0,cP1,lP,sP,sP0,sP1,tk,e1,if_false,V,gl,tl,z8,zk,Nat.lt_succ_self,tkP,dpP,aggP,zF,List.singleton_append]
         try simp [xaa,tl,gl,sUF]
       . rw [h2,xg1,List.take_append_of_le_length (by omega)]
       . rw [h3,xg1,zO,List.drop_append_of_le_length (by omega),List.reverse_append,xyI,zy,List.map_replicate,zx]
      ·
       have i4:((h - n:Nat):Int)<(M:Int):=by omega
       have e1:=xtq q (n:Int) v ((h - n:Nat):Int) (h:Int) f (st++[(f,(M:Int))]) st.length i3 (by rw [g0]) (h - n) (by omega) (h - n) 0 ox vo (by omega) (by omega)
       rw [L1] at e1;refine ⟨st++[(f,((M - (h - n):Nat):Int))],ox++List.replicate (h - n) (f,q),vo+(h - n),(xaq (s':=((n:Int),st.length+1,v,(ox++List.replicate (h - n) (f,q)).length,vo+(h - n),v,(st++[(f,((M - (h - n):Nat):Int))]).map encP,vo+(h - n),(ox++List.replicate (h - n) (f,q)).map encP)) ?_).trans (xah ?_),?_,?_,?_⟩
       . have w3:IntKind.i64.wrap ((h:Int) - ((h - n:Nat):Int))=(n:Int):=by rw [xaK (by omega) (by omega)];omega
         have w4:IntKind.i64.wrap ((M:Int) - ((h - n:Nat):Int))=((M - (h - n):Nat):Int):=by rw [xaK (by omega) (by omega)];omega
         have i6:(((M - (h - n):Nat):Int)==0)=false:=by simp;omega
         have e1:Iter (xb3 q (n:Int) v st.length ((h - n:Nat):Int) ((h - n:Nat):Int)) ((0:Int),(h:Int),st.length+1,v,ox.length,vo,v,(st++[(f,(M:Int))]).map encP,vo,ox.map encP)=_:=e1;have Y:∀ x:AV,List.take (st.length+1) (st.map encP++[x])=st.map encP++[x]:=fun x=>zj (by simp)
         simp only [xbH,xeD,xcW,xb2,xdW,xdX,xab,xcy,xgo,xaA,sBU,L1,i1,i2,w1,w2,w3,w4,i4,gf,cP0,cP1,lP,sP,sP0,sP1,tk,e1,if_true,V,gl,tl,Y,z8,zk,Nat.lt_succ_self,tkP,dpP,aggP,zF,List.singleton_append]
         try simp [xaa,xad,tl,Y,gl,i6,sUF]
       . have i5:¬ ((n:Int)>(n:Int)):=by omega
         simp only [xbH,xeD,i5,zn,xad,z8,zk,sUF]
       . intro s aa;rcases zH.1 aa with h1|h1
         . exact W s h1
         . rw [zw] at h1;subst h1;dsimp only;omega
       . rw [xg1,xg1,zO,zO,List.take_append];have:(xHq st).take n=xHq st:=zj (by omega)
         rw [this,List.take_replicate,show min (n - (xHq st).length) M=M - (h - n) by omega]
       . rw [xg1,zO,List.drop_append,zr (show (xHq st).length<=n by omega),zV,List.drop_replicate,xyI,List.map_replicate,show M - (n - (xHq st).length)=h - n by omega]
def xyL (D:Int) (n h:Nat) (q ox:List Per) (hs:StOk q) (hh:(xHq q).length=h) (hn:n<=1048576) (hb:h<=1048576) (ho:ox.length+1048576<=1099511627776) :
  ∃ J:List Per,set2 D (n:Int) (h:Int) q.length ox.length (q.map encP) (ox.map encP)=some ((n:Int),J.length,(ox++(((xHq q).drop n).reverse.map fun f=>(f,D))).length,J.map encP,(ox++(((xHq q).drop n).reverse.map fun f=>(f,D))).map encP) /\
   StOk J/\xHq J=(xHq q).take n++List.replicate (n - h) D:=by
 have sl:=hs.len;rw [hh] at sl;have tk:List.take q.length (q.map encP)=q.map encP:=zj (by simp)
 by_cases Z:h<n
 . have i1:(n:Int)>(h:Int):=by omega
   have w1:IntKind.i64.wrap ((n:Int) - (h:Int))=((n - h:Nat):Int):=by rw [xaK (by omega) (by omega)];omega
   have Y:StOk (q++[(D,((n - h:Nat):Int))]):=fun s h1=>by
    rcases zH.1 h1 with h1|h1
    . exact hs s h1
    . rw [zw] at h1;subst h1;dsimp only;omega
   have hf:xHq (q++[(D,((n - h:Nat):Int))])=xHq q++List.replicate (n - h) D:=by rw [xg1,zO]
   have W:(xHq (q++[(D,((n - h:Nat):Int))])).length=n:=by rw [hf,z8,List.length_replicate];omega
   obtain ⟨J,O,V,e,h1,h2,h3⟩:=xtp D n (q.length+1) (q++[(D,((n - h:Nat):Int))]) n ox 1 0 (by simp) Y W (zd _) hn (by omega)
   refine ⟨J,?_,h1,?_⟩
   . have d1:(xHq q).drop n=[]:=zr (by omega)
     have d2:(xHq (q++[(D,((n - h:Nat):Int))])).drop n=[]:=zr (by omega)
     rw [d2] at h3;subst h3;rw [d1];have m1:(q.length+1)*16<=140737488355328:=by omega
     have m2:q.length+1<=4611686018427387904:=by omega
     have Q:List.take (q.length+1) (q.map encP++[AV.agg [.int .i64 D,.int .i64 ((n - h:Nat):Int)]])=(q++[(D,((n - h:Nat):Int))]).map encP:=by
      rw [zj (by simp),zy];rfl
     rw [z8,zk] at e;unfold set2 xiE xie;simp only [xby,xbz,xiF,xiG,i1,w1,zo,xaa,za,beq_self_eq_true,m1,m2,Bool.and_self,Q,e,zl,zi,Option.bind_some,Nat.beq_refl,sUF]
   . rw [h2,hf,zj (by rw [<-hf];omega),zj (by omega)]
 . obtain ⟨J,O,V,e,h1,h2,h3⟩:=xtp D n q.length q h ox 0 0 (zd _) hs hh (by omega) hb (by omega)
   refine ⟨J,?_,h1,by rw [h2,show n - h=0 by omega];simp⟩
   have i1:¬ (n:Int)>(h:Int):=by omega
   subst h3;unfold set2 xiE xie;simp only [xby,xbz,xiF,xiG,i1,zn,xad,tk,e,zl,zi,xaa,Option.bind_some,Nat.beq_refl,Bool.and_self,sUF]
def setF (s:List Int×List Per) (q:Int×Nat):List Int×List Per:=(s.1.take q.2++List.replicate (q.2 - s.1.length) q.1,s.2++((s.1.drop q.2).reverse.map fun f=>(f,q.1)))
def xq8 {α β:Type} (A B:α->List β):∀ l:List α,(l.flatMap fun k=>A k++B k).Perm (l.flatMap A++l.flatMap B)
 | []=>List.Perm.refl _
 | a::l=>by
  rw [zS,zS,zS];have ih:=xq8 A B l;refine (ih.append_left (A a++B a)).trans ?_;rw [zx,zx];refine List.Perm.append_left _ ?_;rw [<-zx,<-zx];exact List.Perm.append_right _ List.perm_append_comm
def xsM {β:Type} (g:Int->β):∀ (F:List Int) (H n:Nat),F.length<=H->(List.range H).flatMap (fun k=>if n<=k then (F[k]?).toList.map g else [])=(F.drop n).map g
 | [],H,n,_=>by
  rw [List.drop_nil,zX,List.flatMap_eq_nil_iff];intro k _;split<;>simp
 | x::F,0,n,h=>by simp at h
 | x::F,H+1,n,h=>by
  rw [List.range_succ_eq_map,zS,List.flatMap_map];have ih:=xsM g F H (n - 1) (by simpa using h)
  have e:(List.range H).flatMap (fun a=>if n<=a.succ then (((x::F)[a.succ]?).toList).map g else [])=(F.drop (n - 1)).map g:=by
   rw [<-ih];congr 1;funext a;have:(n<=a.succ)=(n - 1<=a):=by rw [eq_iff_iff];omega
   simp only [this,y6,Nat.succ_eq_add_one]
  rw [e];cases n with
  | zero=>simp
  | succ n=>simp
structure LvI (N:Int->Nat) (H:Nat) (at':Int) (F:List Int) (out:List Per) (A:Nat->List Per):Prop where
 perm:out.Perm ((List.range H).flatMap A)
 span:∀ k,IsSpan (A k)
 low:∀ k (h:k<F.length),F[k]<=at'/\0<=F[k]/\∀ p,p∈A k->p.2<F[k]
 high:∀ k,F.length<=k->∀ p,p∈A k->p.2<=at'
 cov:∀ k t,t<=at'->((inL (A k) t=true\/∃ h:k<F.length,F[k]<=t)↔k<N t)
 len:F.length=N at'
 top:F.length<=H
def LvI.start {N:Int->Nat} {H:Nat} (h0:∀ t,t<0->N t=0):LvI N H (-1) [] [] fun _=>[] where
 perm:=by
  have:(List.range H).flatMap (fun _=>([]:List Per))=[]:=by simp
  rw [this]
 span _:=xmI
 low k h:=by simp at h
 high k _ p hp:=by simp at hp
 cov k t ht:=by rw [h0 t (by omega),xiC];simp
 len:=by rw [h0 _ (by omega)];rfl
 top:=zR _
def LvI.set {N:Int->Nat} {H:Nat} {a b:Int} {F:List Int} {out:List Per} {A:Nat->List Per} (h:LvI N H a F out A) (ac:a<b) (h0:0<=b) (hb:b<=1099511627776) (hc:∀ t,a<=t->t<b->N t=N a) (hH:N b<=H) :
  ∃ A',LvI N H b (setF (F,out) (b,N b)).1 (setF (F,out) (b,N b)).2 A':=by
 have hl:=h.len;refine ⟨fun k=>A k++(if N b<=k then (F[k]?).toList.map (fun f=>(f,b)) else []),?_,?_,?_,?_,?_,?_,?_⟩
 . refine (List.Perm.append h.perm ?_).trans (xq8 A _ _).symm;rw [xsM (fun f=>(f,b)) F H (N b) h.top]
   exact (List.reverse_perm _).map _
 . intro k;by_cases hk:N b<=k
   . rw [if_pos hk];by_cases D:k<F.length
     . obtain ⟨l1,l2,l3⟩:=h.low k D;rw [zf D];refine ⟨fun p hp=>?_,List.pairwise_append.2 ⟨(h.span k).2,by simp,fun p hp q hq=>?_⟩⟩
       . rcases zH.1 hp with hp|hp
         . exact (h.span k).1 p hp
         . simp at hp;subst hp;exact xb5.2 ⟨l2,by dsimp only;omega,hb⟩
       . simp at hq;subst hq;exact l3 p hp
     . rw [zA (by omega)];simpa using h.span k
   . rw [if_neg hk,zF];exact h.span k
 . intro k hk;simp only [setF] at hk |-;rw [z8,zu,List.length_replicate] at hk;have J:¬ N b<=k:=by omega
   simp only [J,if_false,zF];by_cases D:k<F.length
   . rw [List.getElem_append_left (by rw [zu];omega),List.getElem_take]
     obtain ⟨l1,l2,l3⟩:=h.low k D;exact ⟨by omega,l2,l3⟩
   . rw [List.getElem_append_right (by rw [zu];omega),List.getElem_replicate]
     exact ⟨Int.le_refl _,h0,fun p hp=>by have:=h.high k (by omega) p hp;omega⟩
 . intro k hk p hp;simp only [setF] at hk;rw [z8,zu,List.length_replicate] at hk;have J:N b<=k:=by omega
   simp only [J,if_true] at hp;by_cases D:k<F.length
   . rw [zf D] at hp;rcases zH.1 hp with hp|hp
     . obtain ⟨l1,l2,l3⟩:=h.low k D;have:=l3 p hp;omega
     . simp at hp;subst hp;exact Int.le_refl _
   . rw [zA (by omega)] at hp
     simp at hp;have:=h.high k (by omega) p hp;omega
 . intro k t ht;have O:(setF (F,out) (b,N b)).1=F.take (N b)++List.replicate (N b - F.length) b:=rfl;have key:(∃ hh:k<(setF (F,out) (b,N b)).1.length,(setF (F,out) (b,N b)).1[k]<=t)↔(k<N b/\((∃ hh:k<F.length,F[k]<=t)\/(F.length<=k/\b<=t))):=by
    constructor
    . rintro ⟨hh,Q⟩;have hh':=hh;rw [O,z8,zu,List.length_replicate] at hh';refine ⟨by omega,?_⟩
      by_cases D:k<F.length
      . refine .inl ⟨D,?_⟩;have e:(setF (F,out) (b,N b)).1[k]=F[k]:=by
         simp only [O];rw [List.getElem_append_left (by rw [zu];omega),List.getElem_take]
        rw [<-e];exact Q
      . refine .inr ⟨by omega,?_⟩
        have e:(setF (F,out) (b,N b)).1[k]=b:=by
         simp only [O];rw [List.getElem_append_right (by rw [zu];omega),List.getElem_replicate]
        rw [<-e];exact Q
    . rintro ⟨h1,h2⟩;have hh:k<(setF (F,out) (b,N b)).1.length:=by rw [O,z8,zu,List.length_replicate];omega
      refine ⟨hh,?_⟩;rcases h2 with ⟨D,Q⟩|⟨D,Q⟩
      . have e:(setF (F,out) (b,N b)).1[k]=F[k]:=by
         simp only [O];rw [List.getElem_append_left (by rw [zu];omega),List.getElem_take]
        rw [e];exact Q
      . have e:(setF (F,out) (b,N b)).1[k]=b:=by
         simp only [O];rw [List.getElem_append_right (by rw [zu];omega),List.getElem_replicate]
        rw [e];exact Q
   rw [key];have Y:inL (A k++(if N b<=k then (F[k]?).toList.map (fun f=>(f,b)) else [])) t=true↔inL (A k) t=true\/(N b<=k/\(∃ hh:k<F.length,F[k]<=t)/\t<b):=by
    rw [xkz,Bool.or_eq_true];refine or_congr Iff.rfl ?_;by_cases J:N b<=k
    . rw [if_pos J];by_cases D:k<F.length
      . obtain ⟨l1,l2,l3⟩:=h.low k D;rw [zf D];have e:inL ((some F[k]).toList.map fun f=>(f,b)) t=hasP (F[k],b) t:=by simp [inL]
        rw [e,xcw,xb5];dsimp only;constructor
        . rintro ⟨_,h2,h3⟩;exact ⟨J,⟨D,h2⟩,h3⟩
        . rintro ⟨_,⟨_,h2⟩,h3⟩;exact ⟨⟨l2,by omega,hb⟩,h2,h3⟩
      . rw [zA (by omega)]
        simp only [Option.toList_none,zX,xiC,zU,false_iff];rintro ⟨_,⟨hh,_⟩,_⟩;omega
    . rw [if_neg J,xiC];simp only [zU,false_iff];rintro ⟨hh,_⟩;omega
   rw [Y];by_cases ab:t<=a
   . have V:=h.cov k t ab;rw [<-V];constructor
     . rintro ((h1|⟨_,h2,_⟩)|⟨_,h2|⟨_,h3⟩⟩)
       . exact .inl h1
       . exact .inr h2
       . exact .inr h2
       . omega
     . rintro (h1|h2)
       . exact .inl (.inl h1)
       . by_cases J:N b<=k
         . exact .inl (.inr ⟨J,h2,by omega⟩)
         . exact .inr ⟨by omega,.inl h2⟩
   . have W:inL (A k) t=true->False:=fun hi=>by
      obtain ⟨p,hp,_,p1,p2⟩:=xfh.1 hi;by_cases D:k<F.length
      . obtain ⟨l1,l2,l3⟩:=h.low k D;have:=l3 p hp;omega
      . have:=h.high k (by omega) p hp;omega
     have aa:(∃ hh:k<F.length,F[k]<=t)↔k<F.length:=⟨fun ⟨hh,_⟩=>hh,fun hh=>⟨hh,by have:=(h.low k hh).1;omega⟩⟩
     rw [aa];by_cases Z:t<b
     . rw [hc t (by omega) Z,<-hl]
       constructor
       . rintro ((h1|⟨_,h2,_⟩)|⟨_,h2|⟨_,h3⟩⟩)
         . exact (W h1).elim
         . exact h2
         . exact h2
         . omega
       . intro D;by_cases J:N b<=k
         . exact .inl (.inr ⟨J,D,Z⟩)
         . exact .inr ⟨by omega,.inl D⟩
     . obtain rfl:t=b:=by omega
       constructor
       . rintro ((h1|⟨_,_,h2⟩)|⟨h1,_⟩)
         . exact (W h1).elim
         . omega
         . exact h1
       . intro hk;refine .inr ⟨hk,?_⟩;by_cases D:k<F.length
         . exact .inl D
         . exact .inr ⟨by omega,Int.le_refl _⟩
 . show (F.take (N b)++List.replicate (N b - F.length) b).length=N b;rw [z8,zu,List.length_replicate];omega
 . show (F.take (N b)++List.replicate (N b - F.length) b).length<=H;rw [z8,zu,List.length_replicate];omega
def xp6 {N:Int->Nat} {a b:Int} (h:∀ t,a<t->t<b->N (t - 1)=N t):∀ (d:Nat) (t:Int),t=a+d->t<b->N t=N a
 | 0,t,e,_=>by rw [e];simp
 | d+1,t,e,hb=>by
  rw [<-h t (by omega) hb]
  exact xp6 h d (t - 1) (by omega) (by omega)
def xvR {N:Int->Nat} {H:Nat} (hH:∀ t,N t<=H):∀ (R:List Per) (a:Int) (F:List Int) (out:List Per) (A:Nat->List Per),LvI N H a F out A->-1<=a->a<1099511627776->(∀ s,s∈R->a<s.1/\s.1<1099511627776/\s.2=(N s.1:Int))->R.Pairwise (fun x y=>x.1<y.1) ->
  (∀ t,a<t->t<1099511627776->N (t - 1)≠N t->∃ s,s∈R/\s.1=t)->∃ (a':Int) (A':Nat->List Per),LvI N H a' (R.foldl (fun x s=>setF x (s.1,s.2.toNat)) (F,out)).1 (R.foldl (fun x s=>setF x (s.1,s.2.toNat)) (F,out)).2 A'/\-1<=a'/\a'<1099511627776/\∀ t,a'<t->t<1099511627776->N (t - 1)=N t
 | [],a,F,out,A,h,h1,h2,_,_,hm=>⟨a,A,h,h1,h2,fun t t1 t2=>by
  by_cases e:N (t - 1)=N t
  . exact e
  . obtain ⟨s,hs,_⟩:=hm t t1 t2 e;simp at hs⟩
 | s::R,a,F,out,A,h,h1,h2,hr,hp,hm=>by
  obtain ⟨s1,s2,s3⟩:=hr s (by simp)
  obtain ⟨p1,p2⟩:=zN.1 hp;obtain ⟨A',h'⟩:=h.set (b:=s.1) s1 (by omega) (by omega) (fun t t1 t2=>xp6 (a:=a) (b:=s.1) (fun u u1 u2=>by
   by_cases e:N (u - 1)=N u
   . exact e
   . obtain ⟨q,hq,D⟩:=hm u u1 (by omega) e
     rcases zD.1 hq with rfl|hq
     . omega
     . have:=p1 q hq;omega) (t - a).toNat t (by omega) t2) (hH _)
  rw [List.foldl_cons];have e:setF (F,out) (s.1,s.2.toNat)=setF (F,out) (s.1,N s.1):=by rw [s3,zO]
  rw [e];obtain ⟨a',A2,g1,g2,g3,g4⟩:=xvR hH R s.1 _ _ A' h' (by omega) s2 (fun q hq=>⟨p1 q hq,(hr q (by simp [hq])).2⟩) p2 (fun t t1 t2 e=>by
   obtain ⟨q,hq,D⟩:=hm t (by omega) t2 e
   rcases zD.1 hq with rfl|hq
   . omega
   . exact ⟨q,hq,D⟩)
  exact ⟨a',A2,g1,g2,g3,g4⟩
def xCl {N:Int->Nat} {H:Nat} (hH:∀ t,N t<=H) (h0:∀ t,t<0\/1099511627776<=t->N t=0) {S:List Per} (hS:StepI (fun t=>(N t:Int)) 1099511627776 S) {P:List Per} (hP:P.Perm (setF (S.foldl (fun x s=>setF x (s.1,s.2.toNat)) ([],[])) (1099511627776,0)).2) (hs:Sorted cmpP P):IsLevs N P:=by
 obtain ⟨a,A,g1,g2,g3,g4⟩:=xvR hH S (-1) [] [] _ (LvI.start fun t ht=>h0 t (.inl ht)) (by omega) (by omega) (fun s hs=>by
  obtain ⟨m1,m2,m3,_⟩:=(hS.mem s).1 hs;exact ⟨by omega,m2,m3⟩) hS.asc (fun t t1 t2 e=>by
  refine ⟨(t,(N t:Int)),(hS.mem _).2 ⟨by dsimp only;omega,t2,rfl,?_⟩,rfl⟩
  refine .inr ?_;dsimp only;omega)
 have hz:N 1099511627776=0:=h0 _ (.inr (Int.le_refl _));obtain ⟨A',h'⟩:=g1.set (b:=1099511627776) g3 (by omega) (by omega) (fun t t1 t2=>xp6 (fun u u1 u2=>g4 u u1 u2) (t - a).toNat t (by omega) t2) (hH _)
 rw [hz] at h';have hF:=h'.len;rw [hz] at hF;refine ⟨hs,A',H,hH,fun k=>⟨h'.span k,fun t=>?_⟩,hP.trans h'.perm⟩
 rw [Bool.eq_iff_iff,zm];by_cases ht:t<=1099511627776
 . rw [<-h'.cov k t ht];refine ⟨Or.inl,fun hh=>hh.elim id fun ⟨hk,_⟩=>?_⟩
   rw [hF] at hk;omega
 . rw [h0 t (.inr (by omega))]
   refine ⟨fun hi=>?_,fun hh=>by omega⟩
   have:=(xDU hi).2;omega
def xmZ (l:List Per) (hl:l.length<=1048576):Iter (xbw (l.map encP) ((l.length:Nat):Int)) ((0:Nat),(0:Int),[])=some ((l.flatMap (fun (f:Per)=>[(f,(1:Int))])).length,(l.flatMap (fun (f:Per)=>[(f,(1:Int))])).map encC):=by
 refine xg2 l (fun (f:Per)=>[(f,(1:Int))]) encC 1 (fun f hf=>?_) (fun n h D hD=>?_) (fun D=>?_)
 . simp
 . have h1:(n:Int)<(l.length:Int):=by omega
   have m1:(D.length+1)*24<=140737488355328:=by omega
   have m2:D.length+1<=4611686018427387904:=by omega
   have gf:(l.map encP).getD n .top=encP l[n]:=xac _ _ _ h;simp only [xbw,xeB,sBU,h,h1,gf,cP0,cP1,lP,sP,sP0,sP1,m1,m2,xHp (n:=n) (by omega)]
   simp [encC]
 . simp only [xbw,xeB,za,zz,zn,xad,sUF]
def xzb (l:List Per) (hl:l.length<=1048576):xdR (l.map encP)=xaf ((l.map fun p=>(p,(1:Int))).map encC):=by
 have h:=xmZ l hl;rw [xHO] at h;unfold xdR xhx xhE xdM;rw [za,h];simp only [sOO,xvg]
section
variable {α : Type} {enc : α -> AV} {okE : AV -> Bool} {ldE : AV -> AV}
theorem gR {l:List α} {i:Nat} {x:α} (h:l[i]?=some x):(List.map enc l).getD i .top=enc x:=by
 simp [List.getD,h]
theorem setR (l:List α) (i:Nat) (x:α):(List.map enc l).set i (enc x)=List.map enc (l.set i x):=by
 simp [List.map_set]
theorem xub {l:List α} {i:Nat} {x:α} (h:l[i]?=some x):i<l.length:=(List.getElem?_eq_some_iff.1 h).1
theorem xmK {l:List α} {i:Nat} {x:α} (h:l[i]?=some x):x∈l:=List.mem_of_getElem? h
theorem xCn {l:List α} {i j:Nat} {x y:α} (hx:x∈l) (hy:y∈l) {z:α} (h:z∈(l.set i y).set j x):z∈l:=by
 rcases List.mem_or_eq_of_mem_set h with h|rfl
 . rcases List.mem_or_eq_of_mem_set h with h|rfl
   . exact h
   . exact hy
 . exact hx
theorem w64 {x:Int} {n:Nat} (h:x=(n:Int)) (hn:n<=9223372036854775807):IntKind.i64.wrap x=(n:Int):=by
 rw [xaK (by omega) (by omega)];exact h
theorem xH2 {i j:Nat} (h:i+j<=9223372036854775807):IntKind.i64.wrap ((IntKind.u64.wrap (IntKind.i64.wrap ((i:Int)+(j:Int)))).fdiv 2)=(((i+j) / 2:Nat):Int):=by
 rw [xaK (n:=(i:Int)+(j:Int)) (by omega) (by omega)]
 have hu:IntKind.u64.wrap ((i:Int)+(j:Int))=(i:Int)+(j:Int):=by
  unfold IntKind.wrap IntKind.bits IntKind.signed;simp;omega
 rw [hu,Int.fdiv_eq_ediv_of_nonneg _ (by omega)]
 exact w64 (by omega) (by omega)
structure LOk (N:Nat) (ok:α->Prop) (l:List α):Prop where
 len:l.length=N
 ok:∀ x,x∈l->ok x
theorem LOk.set2 {N:Nat} {ok:α->Prop} {l:List α} (h:LOk N ok l) {i j:Nat} {x y:α} (hx:x∈l) (hy:y∈l):LOk N ok ((l.set i y).set j x) :=
 ⟨by simp [h.len],fun z hz=>h.ok z (xCn hx hy hz)⟩
theorem LOk.perm {N:Nat} {ok:α->Prop} {l l':List α} (h:LOk N ok l) (hp:l'.Perm l):LOk N ok l' :=
 ⟨hp.length_eq.trans h.len,fun z hz=>h.ok z (hp.mem_iff.1 hz)⟩
theorem xt2 {σ ρ σ' ρ':Type} {p:σ->Option (σ⊕ρ)} {g:σ'->Option (σ'⊕ρ')} (I:σ->Prop) (J:ρ->Prop) (e:σ->σ') (f:ρ->ρ')
  (h:∀ s,I s->(∀ s',p s=some (.inl s')->g (e s)=some (.inl (e s'))/\I s')/\(∀ r,p s=some (.inr r)->g (e s)=some (.inr (f r))/\J r)) {s:σ} {r:ρ} (hI:I s) (hr:Iter p s=some r):Iter g (e s)=some (f r)/\J r:=by
 obtain ⟨n,hn⟩:=xlr.1 hr;clear hr;induction n generalizing s with
 | zero=>simp [iterN] at hn
 | succ n ih =>
  unfold iterN at hn;obtain ⟨h1,h2⟩:=h s hI;split at hn
  . rename_i s' hs;obtain ⟨h3,h4⟩:=h1 s' hs;rw [xaq h3];exact ih h4 hn
  . rename_i r' hs;cases hn;obtain ⟨h3,h4⟩:=h2 _ hs;exact ⟨xah h3,h4⟩
  . simp at hn
theorem xDa {σ ρ σ' ρ':Type} {p:Option (σ⊕ρ)} {g:Option (σ'⊕ρ')} {I:σ->Prop} {J:ρ->Prop} {e:σ->σ'} {f:ρ->ρ'} {s0:σ} (hp:p=some (.inl s0)) (hg:g=some (.inl (e s0))) (hI:I s0) :
  (∀ s',p=some (.inl s')->g=some (.inl (e s'))/\I s')/\(∀ r,p=some (.inr r)->g=some (.inr (f r))/\J r) :=
 ⟨fun s' h=>by rw [hp] at h;simp only [z6,Sum.inl.injEq] at h;subst h;exact ⟨hg,hI⟩,fun r h=>by rw [hp] at h;simp at h⟩
theorem xvH {σ ρ σ' ρ':Type} {p:Option (σ⊕ρ)} {g:Option (σ'⊕ρ')} {I:σ->Prop} {J:ρ->Prop} {e:σ->σ'} {f:ρ->ρ'} {r0:ρ} (hp:p=some (.inr r0)) (hg:g=some (.inr (f r0))) (hJ:J r0) :
  (∀ s',p=some (.inl s')->g=some (.inl (e s'))/\I s')/\(∀ r,p=some (.inr r)->g=some (.inr (f r))/\J r) :=
 ⟨fun s' h=>by rw [hp] at h;simp at h,fun r h=>by rw [hp] at h;simp only [z6,Sum.inr.injEq] at h;subst h;exact ⟨hg,hJ⟩⟩
theorem xtl {σ ρ σ' ρ':Type} {p:Option (σ⊕ρ)} {g:Option (σ'⊕ρ')} {I:σ->Prop} {J:ρ->Prop} {e:σ->σ'} {f:ρ->ρ'} (hp:p=none) :
  (∀ s',p=some (.inl s')->g=some (.inl (e s'))/\I s')/\(∀ r,p=some (.inr r)->g=some (.inr (f r))/\J r) :=
 ⟨fun s' h=>by rw [hp] at h;simp at h,fun r h=>by rw [hp] at h;simp at h⟩
theorem xEg {N:Nat} (he:∀ a,okE (enc a)=true) (hd:∀ a,ldE (enc a)=enc a) (hN:N<=2 ^ 60) {ok:α->Prop} {c:α->α->Int} {P:AV->AV->Bool} {V:AV->AV->Int} (hc:∀ x y,ok x->ok y->P (enc x) (enc y)=true/\V (enc x) (enc y)=c x y)
  {g:Int×List AV->Option ((Int×List AV)⊕List AV)} (a:Nat)
  (hg:∀ (j:Int) (xs:List AV),g (j,xs)=br (decide (j>(a:Int))) (br (decide ((0:Int)<=j)&&decide (j<(N:Int))) (br (decide ((0:Nat)+j.toNat<xs.length)&&okE (xs.getD ((0:Nat)+j.toNat) AV.top))
   (br (decide ((0:Int)<=IntKind.i64.wrap (j - 1))&&decide (IntKind.i64.wrap (j - 1)<(N:Int))) (br (decide ((0:Nat)+(IntKind.i64.wrap (j - 1)).toNat<xs.length)&&okE (xs.getD ((0:Nat)+(IntKind.i64.wrap (j - 1)).toNat) AV.top))
   (br (P (xs.getD ((0:Nat)+j.toNat) AV.top) (xs.getD ((0:Nat)+(IntKind.i64.wrap (j - 1)).toNat) AV.top))
   (br (decide (V (xs.getD ((0:Nat)+j.toNat) AV.top) (xs.getD ((0:Nat)+(IntKind.i64.wrap (j - 1)).toNat) AV.top)<0))
   (br (decide ((0:Int)<=IntKind.i64.wrap (j - 1))&&decide (IntKind.i64.wrap (j - 1)<(N:Int))) (br (decide ((0:Nat)+(IntKind.i64.wrap (j - 1)).toNat<xs.length)&&okE (xs.getD ((0:Nat)+(IntKind.i64.wrap (j - 1)).toNat) AV.top))
   (br (decide ((0:Int)<=j)&&decide (j<(N:Int))) (br (decide ((0:Nat)+j.toNat<xs.length)&&okE (xs.getD ((0:Nat)+j.toNat) AV.top))
   (br (decide ((0:Int)<=j)&&decide (j<(N:Int))) (br (decide ((0:Nat)+j.toNat<xs.length)) (br (decide ((0:Int)<=IntKind.i64.wrap (j - 1))&&decide (IntKind.i64.wrap (j - 1)<(N:Int)))
   (br (decide ((0:Nat)+(IntKind.i64.wrap (j - 1)).toNat<(xs.set ((0:Nat)+j.toNat) (ldE (xs.getD ((0:Nat)+(IntKind.i64.wrap (j - 1)).toNat) AV.top))).length))
    (some (.inl (IntKind.i64.wrap (j - 1),(xs.set ((0:Nat)+j.toNat) (ldE (xs.getD ((0:Nat)+(IntKind.i64.wrap (j - 1)).toNat) AV.top))).set ((0:Nat)+(IntKind.i64.wrap (j - 1)).toNat) (ldE (xs.getD ((0:Nat)+j.toNat) AV.top)))))
    none) none) none) none) none) none) none) none) (some (.inr xs))) none) none) none) none) none) (some (.inr xs)))
  {j:Nat} {l r:List α} (hl:LOk N ok l) (hr:Iter (xHr c a) (j,l)=some r):Iter g ((j:Int),List.map enc l)=some (List.map enc r)/\LOk N ok r:=by
 refine xt2 (I:=fun s=>LOk N ok s.2) (J:=LOk N ok) (e:=fun s=>((s.1:Int),List.map enc s.2)) (f:=List.map enc) ?_ (s:=(j,l)) hl hr
 rintro ⟨j,l⟩ (hl:LOk N ok l);have Q:l.length=N:=hl.len;by_cases ha:a<j
 . cases hx:l[j]? with
   | none=>exact xtl (by simp [xHr,ha,hx])
   | some x =>
    cases hy:l[j - 1]? with
    | none=>exact xtl (by simp [xHr,ha,hx,hy])
    | some y =>
     have hj:=xub hx;have O:=xub hy;have w1:IntKind.i64.wrap ((j:Int) - 1)=((j - 1:Nat):Int):=w64 (by omega) (by omega)
     obtain ⟨c1,c2⟩:=hc x y (hl.ok _ (xmK hx)) (hl.ok _ (xmK hy));have k1:(j:Int)<(N:Int):=by omega
     have k2:((j - 1:Nat):Int)<(N:Int):=by omega
     have k3:(j:Int)>(a:Int):=by omega
     have k4:j<(List.map enc l).length:=by simpa using hj
     have k5:j - 1<(List.map enc l).length:=by simpa using O
     by_cases D:c x y<0
     . have hp:xHr c a (j,l)=some (.inl (j - 1,(l.set j y).set (j - 1) x)):=by simp [xHr,ha,hx,hy,D]
       have q:g ((j:Int),List.map enc l)=some (.inl (((j - 1:Nat):Int),List.map enc ((l.set j y).set (j - 1) x))):=by
        rw [hg];simp only [w1,zO,zI,gR hx,gR hy,he,hd,c1,c2,setR,D,k1,k2,k3,k4,k5,zo,zT,xaa,Int.natCast_nonneg,za,y8,hj,O,sUF]
       exact xDa hp q (hl.set2 (xmK hx) (xmK hy))
     . have hp:xHr c a (j,l)=some (.inr l):=by simp [xHr,ha,hx,hy,D]
       have q:g ((j:Int),List.map enc l)=some (.inr (List.map enc l)):=by
        rw [hg];simp only [w1,zO,zI,gR hx,gR hy,he,hd,c1,c2,setR,D,k1,k2,k3,k4,k5,zo,zn,zT,xaa,xad,Int.natCast_nonneg,sUF]
       exact xvH hp q hl
 . have hp:xHr c a (j,l)=some (.inr l):=by simp [xHr,ha]
   have k3:¬ ((j:Int)>(a:Int)):=by omega
   have q:g ((j:Int),List.map enc l)=some (.inr (List.map enc l)):=by
    rw [hg];simp only [k3,zn,xad,sUF]
   exact xvH hp q hl
theorem xCP {N:Nat} (hN:N<=2 ^ 60) {ok:α->Prop} {c:α->α->Int} (a b:Nat) (hb:b<=N) {gi:Int->Int×List AV->Option ((Int×List AV)⊕List AV)}
  (hi:∀ (i:Nat) (l r:List α),LOk N ok l->Iter (xHr c a) (i,l)=some r->Iter (gi i) ((i:Int),List.map enc l)=some (List.map enc r)/\LOk N ok r)
  {g:Int×List AV->Option ((Int×List AV)⊕List AV)}
  (hg:∀ (i:Int) (xs:List AV),g (i,xs)=br (decide (i<(b:Int))) (br (Iter (gi i) (i,xs)).isSome (some (.inl (IntKind.i64.wrap (i+1),(Iter (gi i) (i,xs)).getD []))) none) (some (.inr xs)))
  {i:Nat} {l r:List α} (hl:LOk N ok l) (hr:Iter (xHz c a b) (i,l)=some r):Iter g ((i:Int),List.map enc l)=some (List.map enc r)/\LOk N ok r:=by
 refine xt2 (I:=fun s=>LOk N ok s.2) (J:=LOk N ok) (e:=fun s=>((s.1:Int),List.map enc s.2)) (f:=List.map enc) ?_ (s:=(i,l)) hl hr
 rintro ⟨i,l⟩ (hl:LOk N ok l);by_cases h:i<b
 . cases hs:Iter (xHr c a) (i,l) with
   | none=>exact xtl (by simp [xHz,h,hs])
   | some l1 =>
    obtain ⟨e1,e2⟩:=hi i l l1 hl hs;refine xDa (s0:=(i+1,l1)) (by simp [xHz,h,hs]) ?_ e2
    rw [hg,show decide ((i:Int)<(b:Int))=true by simp [h],xaa,e1,w64 (x:=(i:Int)+1) (n:=i+1) (by omega) (by omega)]
    rfl
 . refine xvH (r0:=l) (by simp [xHz,h]) ?_ hl
   rw [hg,show decide ((i:Int)<(b:Int))=false by simp;omega,xad]
end
end Go.Sim.M
end
noncomputable section
set_option maxRecDepth 100000
namespace Go.Sim.M
open Go.RowKit Go.Sim.Srt
def xHP (l:List Row):Prop:=l.length<=1048576/\∀ x,x∈l->x.length<=1048576
def xHP.perm {l l':List Row} (h:xHP l) (hp:l'.Perm l):xHP l':=⟨by rw [hp.length_eq];exact h.1,fun x hx=>h.2 x (hp.mem_iff.1 hx)⟩
deriving instance DecidableEq for Fc
def xDV {α:Type} [DecidableEq α] {step:Int->Option (Int⊕(Bool×Bool×Unit))} (a b:List α) (hl:a.length=b.length)
  (hs:∀ (n:Nat) (h1:n<a.length) (h2:n<b.length),step (n:Int)=if a[n]=b[n] then some (.inl ((n+1:Nat):Int)) else some (.inr (true,false,())))
  (he:step (a.length:Int)=some (.inr (false,false,()))):Iter step (0:Int)=some (if a=b then (false,false,()) else (true,false,())):=by
 have key:∀ d n:Nat,n+d=a.length->Iter step (n:Int)=some (if a.drop n=b.drop n then (false,false,()) else (true,false,())):=by
  intro d;induction d with
  | zero =>
   intro n h;have:n=a.length:=by omega
   subst this;rw [zr (zd _),zr (by omega)]
   exact xah he
  | succ d ih =>
   intro n h;have h1:n<a.length:=by omega
   have h2:n<b.length:=by omega
   have:=hs n h1 h2;have e:a.drop n=b.drop n↔a[n]=b[n]/\a.drop (n+1)=b.drop (n+1):=by rw [xed h1,xed h2,List.cons.injEq]
   by_cases hc:a[n]=b[n]
   . rw [if_pos hc] at this;rw [xaq this,ih (n+1) (by omega)]
     by_cases hr:a.drop (n+1)=b.drop (n+1)
     . rw [if_pos hr,if_pos (e.2 ⟨hc,hr⟩)]
     . rw [if_neg hr,if_neg fun h=>hr (e.1 h).2]
   . rw [if_neg hc] at this;rw [xah this,if_neg fun h=>hc (e.1 h).1]
 have:=key a.length 0 (by omega)
 simpa using this
def cV0 (v:Val):((encV v).cells.getD 0 .top).toInt=v.k:=rfl
def cV1 (v:Val):((encV v).cells.getD 1 .top).toInt=v.i:=rfl
def cV2 (v:Val):((encV v).cells.getD 2 .top).toStr=v.t:=rfl
def lV (v:Val):((encV v).cells.length==3)=true:=rfl
def sV (v:Val):xId [Sh.int .i64,Sh.int .i64,Sh.str] (encV v).cells 0=true:=rfl
def xFH (x y:Per):(x.1==y.1&&x.2==y.2)=decide (x=y):=by
 cases x;cases y;simp [Bool.decide_and,Bool.beq_eq_decide_eq]
def cmp0 (x y:Row):(cmpR x y==0)=decide (x=y):=by
 by_cases h:x=y
 . subst h;simp [xAs]
 . have:cmpR x y≠0:=fun e=>h (xlW e)
   simp [h,this]
def cmp1 (x y:Row):(cmpR x y != 0)=!decide (x=y):=by rw [<-cmp0];rfl
def xFI (x y:Fc):x=y↔x.r=y.r/\x.p=y.p:=by cases x;cases y;simp
def xnF (a b:List Fc) (hl:a.length=b.length) (ha:a.length<=1048576) (hr:∀ f,f∈a->f.r.length<=maxLen):Iter (xbh (a.map encF) (b.map encF)) (0:Int)=some (if a=b then (false,false,()) else (true,false,())):=by
 refine xDV a b hl (fun n h h2=>?_) ?_
 . have h1:(n:Int)<(a.length:Int):=by omega
   have h3:(n:Int)<(b.length:Int):=by omega
   have gf:(a.map encF).getD n .top=encF a[n]:=xac _ _ _ h;have gg:(b.map encF).getD n .top=encF b[n]:=xac _ _ _ h2;have hm:=hr a[n] (zp h);simp only [xbh,xe2,sBU,h,h1,h2,h3,gf,gg,cF0,cF1,cF2,sF0,sF1,sF2,lF,sF12,sF02,xFH,xD7 _ _ hm,cmp1,xHp (n:=n) (by omega)]
   by_cases hp:a[n].p=b[n].p<;>by_cases hq:a[n].r=b[n].r<;>simp [hp,hq,xFI,xaa,xad,sUF]
 . simp only [xbh,xe2,za,zz,zn,xad,sUF]
def xBh (a b:List Fc) (ha:a.length<=1048576) (hr:∀ f,f∈a->f.r.length<=maxLen):xeF (a.map encF) (b.map encF)=some (decide (a=b)):=by
 unfold xeF xi2;by_cases hl:a.length=b.length
 . simp only [za,hl,bne_self_eq_false,xad,sUF];rw [xnF a b hl ha hr];by_cases h:a=b<;>simp [h,xaa,xad,sUF]
 . have h:a≠b:=fun e=>hl (by rw [e])
   have h2:((a.length:Int) != (b.length:Int))=true:=by simp;omega
   simp [h,h2,xaa,sUF]
def atL (l:List Fc) (t:Int):List Row:=l.flatMap fun f=>if hasP f.p t=true then [f.r] else []
def xDt (l:List Fc) (t:Int):(atL l t).length<=l.length:=by
 have:=xib (g:=fun f:Fc=>if hasP f.p t=true then [f.r] else []) (c:=1) l fun f _=>by split<;>simp
 unfold atL;omega
def xDu {l:List Fc} {t:Int} {r:Row} (h:r∈atL l t):∃ f,f∈l/\f.r=r/\hasP f.p t=true:=by
 obtain ⟨f,hf,h⟩:=y9.1 h;split at h
 . rename_i hp;simp only [zw] at h;exact ⟨f,hf,h.symm,hp⟩
 . simp at h
def Few (l:List Fc):Prop:=l.length<=1048576/\∀ f,f∈l->f.r.length<=1048576
def Few.at {l:List Fc} (h:Few l) (t:Int):xHP (atL l t):=⟨Nat.le_trans (xDt l t) h.1,fun x hx=>by obtain ⟨f,hf,rfl,_⟩:=xDu hx;exact h.2 f hf⟩
end Go.Sim.M
end
