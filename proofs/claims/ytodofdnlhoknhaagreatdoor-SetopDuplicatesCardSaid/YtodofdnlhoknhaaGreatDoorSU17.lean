/- Part 17 of the proof of the law. -/
import Derived.Test.YtodofdnlhoknhaaGreatDoorSU16
import Derived.Test.YtodofdnlhoknhaaGreatDoorCards
import Derived.Test.YtodofdnlhoknhaaGreatDoorTie
import Derived.ChangeMaps5
import Derived.Deep.DeepHandedRow
import Derived.Stop.LaidErr
import Derived.Deep.DeepLaidRun
set_option linter.defProp false
set_option linter.unusedVariables false
set_option linter.unusedSimpArgs false
set_option linter.unusedSectionVars false
noncomputable section
set_option maxRecDepth 10000
namespace Go.Sim
open Go.RowKit Go.Proofs Go.ChangeShapes Go.WideShapes Go.ChangeAt
def xuS {P:Program} {w:World} (h:w.ShapedOpen P) (hg:P.globals.size<P.low):P.low<=w.heap.size:=by
 obtain ⟨o,o₀,h1,_,_⟩:=h.2 (P.low - 1) (by omega) (by unfold Program.low at hg |-;omega)
 grind
def xHO:DataW Unit->List Value
 | .lit (.int k n)=>[.int k n]
 | .agg l=>l.flatMap fun d=>match d with
  | .lit (.int k n)=>[.int k n]
  | .agg l'=>l'.flatMap fun d'=>match d' with
   | .lit (.int k n)=>[.int k n]
   | _=>[]
  | _=>[]
 | _=>[]
def xHN (P:Program):List (String×DataW Unit)->Array Obj->Array Obj
 | [],h=>h
 | x::r,h=>xHN P r (match P.globalNamed x.1 with
  | some g=>h.modify g fun o=>match o with
   | .cells _ t frozen=>.cells (xHO x.2).toArray t frozen
   | o=>o
  | none=>h)
def xHF (P:Program) (q:List (String×DataW Unit)) (os:Os):World :=
 { World.holding P os ⟨#[],#[],[]⟩ with heap:=xHN P q (World.holding P os ⟨#[],#[],[]⟩).heap }
def xA7 {H:Type} {enc:TypeId×Value->H} {P:Program} {f:Func} {s:ChangeSpec} {W W':World} {args:Array Value} {ds:List (DataW H)} {q:List MemPlace} {tb:TypeId} (hs:s.vars=[])
  (hW:DataW.Whole enc P f.params.toList s.vars false W args.toList ds [] q) (J:(s.fn H ds).results=[.lit (.bool true)]/\(s.fn H ds).args=ds/\(s.fn H ds).vars=[]) (V:f.resultTypes=#[tb]) (Q:P.underlying tb=some .bool)
  (O:DataW.TrodAll enc P W' 0 (fun b=>decide (b<W.heap.size)) true f.params.toList args.toList ds q) (hb:Below W.heap.size W W'):s.post enc P f false true false false W args (.bool true) W':=by
 refine ⟨ds,[],q,[],q,[],hW,?_,?_,?_,hb.frame _,fun h=>by simp at h⟩
 . simp only [zD,J.1,V];exact trodAll_cons_mk (shut_bool Q _) trodAll_mk0
 . simpa [J.2.1] using O
 . simp only [zD,J.2.2,hs];rfl
def xpR {H:Type} {enc:TypeId×Value->H} {P:Program} {W W':World} (hl:laidOutB P=true) (hb:Below W.heap.size W W'):∀ {ts:List TypeId} {vs:List Value} {ds:List (DataW H)} {ps:List MemPlace},(ts.all fun t=>P.readableRec t&&decide (t<P.types.size))=true ->
  DataW.TrodAll enc P W 0 (fun _=>true) true ts vs ds ps->DataW.TrodAll enc P W' 0 (fun b=>decide (b<W.heap.size)) true ts vs ds ps
 | [],vs,ds,ps,_,h=>by
  obtain ⟨rfl,rfl,rfl⟩:=trodAll_nil h;exact trodAll_mk0
 | t::ts,vs,ds,ps,ht,h=>by
  have J:=h.lt;obtain ⟨v,O,d,Q,p,q,rfl,rfl,rfl,hd,hr⟩:=trodAll_cons h;simp only [List.all_cons,zf,zl] at ht;exact trodAll_cons_mk (Below.trod hl ht.1.1 ht.1.2 hd hb fun x hx=>J x (by simp [hx])) (xpR hl hb ht.2 hr)
section
variable {H : Type} {enc : TypeId × Value -> H} {P : Program} {w : World} {base b n : Nat} {sp : Nat -> Bool} {held : Bool} {v : Value} {d : DataW H} {ps : List MemPlace} {t : TypeId}
def xqV {α:Type} {e:α->AV} {wf:α->Prop} {es:List Ty} (hv:∀ x:AV,x.cells.length=es.length->x=xIG x.cells->(∀ j,j<es.length->OfTy (es.getD j .bool) (x.cells.getD j .top))->∃ a,x=e a/\wf a) {x:AV} (h:OfTy (.slice es) x) :
  ∃ l:List α,x=.list es.length (l.map e)/\l.length<=maxLen/\∀ a,a∈l->wf a:=by
 cases h with
 | slice _ xs hn hl hx =>
  have:∀ xs:List AV,(∀ x,x∈xs->∃ a,x=e a/\wf a)->∃ l:List α,xs=l.map e/\∀ a,a∈l->wf a:=by
   intro xs;induction xs with
   | nil=>exact fun _=>⟨[],rfl,fun a h=>by simp at h⟩
   | cons x xs ih =>
    intro h;obtain ⟨a,rfl,ha⟩:=h x (by simp)
    obtain ⟨l,rfl,hl⟩:=ih fun y hy=>h y (by simp [hy])
    exact ⟨a::l,rfl,fun b hb=>(zC.1 hb).elim (fun he=>he▸ha) (fun hb=>hl b hb)⟩
  obtain ⟨l,rfl,hw⟩:=this xs fun x q=>hv x (hl x q).1 (hl x q).2 (fun j hj=>hx x j q hj)
  exact ⟨l,rfl,by simpa using hn,hw⟩
end
end Go.Sim
namespace Go.Sim
open Go.RowKit Go.Proofs Go.ChangeShapes Go.WideShapes Go.ChangeAt Go.Proofs.YtodofdnlhoknhaaGreatDoor
def xHT:laidOutB Tryz.prog=true:=by kernel_rfl
def xHZ:ownKnob Tryz.prog.godebug=none:=by kernel_rfl
def xHY:Tryz.prog.globals.size<Tryz.prog.low:=of_decide_eq_true (by kernel_rfl)
noncomputable def xHH:Nat:=(Tryz.prog.globalNamed "internal/strconv.uint64pow10").getD 0
def xA8:Rows.laid_internal_strconv_uint64pow10=(Lib.tabData .u64 Lib.pow10Tab:DataW Unit):=by kernel_rfl
def xFt {W:World} {r:List (String×DataW Unit)} {a b:String×DataW Unit} (hl:r=[a,b,("internal/strconv.uint64pow10",Rows.laid_internal_strconv_uint64pow10)]) (hp:(r.all fun x=>x.2.handleName?.isNone)=true) (hL:laidMetH Tryz.prog r W) (q:W.ShapedOpen Tryz.prog):xIO W:=by
 rw [MakeChecks.laidMetH_plain _ _ _ hp] at hL;subst hl;refine ⟨q,xuS q xHY,?_⟩;have h:=hL.tail.tail;rw [xA8] at h;exact Lib.tabIs_of_head (g:=xHH) (t:=(Tryz.prog.globals[xHH]?).map (·.type) |>.getD 0) (e:=185) (n:=20) (by kernel_rfl) (by kernel_rfl) (by kernel_rfl) (by kernel_rfl) (by kernel_rfl) (by kernel_rfl) h
def tyV:List Ty:=[.int .i64,.int .i64,.str]
def tyF:List Ty:=[.slice tyV,.int .i64,.int .i64]
def I64 (n:Int):Prop:=(Lit.int .i64 n).wf=true
def M.Fc.wf (x:M.Fc):Prop:=M.Row.wf x.r/\I64 x.p.1/\I64 x.p.2
def xCM (x:AV) (hl:x.cells.length=tyV.length) (he:x=xIG x.cells) (hx:∀ j,j<tyV.length->OfTy (tyV.getD j .bool) (x.cells.getD j .top)):∃ a,x=M.encV a/\M.Val.wf a:=by
 generalize x.cells=cs at *;match cs,hl with
 | [c0,c1,c2],_ =>
  have h0:=hx 0 (by decide)
  have h1:=hx 1 (by decide)
  have h2:=hx 2 (by decide)
  change OfTy (.int .i64) c0 at h0;change OfTy (.int .i64) c1 at h1;change OfTy .str c2 at h2;cases h0 with
  | int _ k hk=>cases h1 with
   | int _ i hi=>cases h2 with
    | str t ht=>exact ⟨⟨k,i,t⟩,he,hk,hi,ht⟩
def xCL {x:AV} (h:OfTy (.slice tyV) x):∃ l:M.Row,x=M.encR l/\M.Row.wf l:=by
 obtain ⟨l,rfl,h1,h2⟩:=xqV xCM h;exact ⟨l,rfl,h1,h2⟩
def xCJ (x:AV) (hl:x.cells.length=tyF.length) (he:x=xIG x.cells) (hx:∀ j,j<tyF.length->OfTy (tyF.getD j .bool) (x.cells.getD j .top)):∃ a,x=M.encF a/\M.Fc.wf a:=by
 generalize x.cells=cs at *;match cs,hl with
 | [c0,c1,c2],_ =>
  have h0:=hx 0 (by decide)
  have h1:=hx 1 (by decide)
  have h2:=hx 2 (by decide)
  change OfTy (.slice tyV) c0 at h0;change OfTy (.int .i64) c1 at h1;change OfTy (.int .i64) c2 at h2;obtain ⟨l,rfl,hw⟩:=xCL h0;cases h1 with
  | int _ k hk=>cases h2 with
   | int _ i hi=>exact ⟨⟨l,(k,i)⟩,he,hw,hk,hi⟩
def tyP:List Ty:=[.int .i64,.int .i64]
section
variable {H : Type} {enc : TypeId × Value -> H} {w : World} {base b : Nat} {sp : Nat -> Bool} {held : Bool} {v : Value} {d : DataW H} {ps : List MemPlace}
def xA3 {P:Program} {t:TypeId} {n:Nat} {Ts:List Ty} {fs:Array Field} (ht:P.underlying t=some (.struct fs)) (hf:flat P n t=some Ts) (q:Value.okWide P w .any base t v) (hd:DataW.Trod enc P w b sp held t v d ps) :
  ∃ cs:List AV,Rel w (fun _=>False) xIj v (.agg cs)/\cs.length=Ts.length/\(∀ j,j<Ts.length->OfTy (Ts.getD j .bool) (cs.getD j .top))/\∀ μ:DataW H->Nat,Meas μ->AV.wts cs<=μ d:=by
 obtain ⟨vs,rfl,_⟩:=okWide_struct ht q;obtain ⟨fuel,J⟩:=hd;obtain ⟨xs,ha,hw⟩:=xqF n t Ts hf fuel _ _ J;obtain ⟨l1,l2⟩:=ha.len;have l1':vs.size=Ts.length:=by simpa [Value.cells] using l1
 refine ⟨xs,.agg vs xs (by omega) fun i hi=>?_,l2,fun j hj=>(ha.get j hj).2,fun μ hμ=>hw μ hμ⟩
 have:=(ha.get i (by omega)).1
 simpa [Value.cells,z7,zu] using this
end
end Go.Sim
end
noncomputable section
set_option maxRecDepth 10000
namespace Go.Sim
open Go.RowKit Go.Proofs Go.ChangeShapes Go.WideShapes Go.ChangeAt Go.Proofs.YtodofdnlhoknhaaGreatDoor
def xB4:flat Tryz.prog 9 25=some [.slice [.int .i64],.slice tyF]:=by kernel_rfl
def xCK (x:AV) (hl:x.cells.length=[Ty.int .i64].length) (he:x=xIG x.cells) (hx:∀ j,j<[Ty.int .i64].length->OfTy ([Ty.int .i64].getD j .bool) (x.cells.getD j .top)):∃ a,x=M.encN a/\I64 a:=by
 generalize x.cells=cs at *;match cs,hl with
 | [c0],_ =>
  have h0:=hx 0 (by decide)
  change OfTy (.int .i64) c0 at h0;cases h0 with
  | int _ k hk=>exact ⟨k,he,hk⟩
section
variable {H : Type} {enc : TypeId × Value -> H} {w : World} {base b : Nat} {sp : Nat -> Bool} {held : Bool} {v : Value} {d : DataW H} {ps : List MemPlace}
def xvS (q:Value.okWide Tryz.prog w .any base 25 v) (hd:DataW.Trod enc Tryz.prog w b sp held 25 v d ps):∃ r:List Int×List M.Fc,Rel w (fun _=>False) xIj v (.agg [.list 1 (r.1.map M.encN),.list 3 (r.2.map M.encF)])/\(∀ μ:DataW H->Nat,Meas μ->(AV.agg [.list 1 (r.1.map M.encN),.list 3 (r.2.map M.encF)]).wt<=μ d)/\(∀ y,y∈r.2->y.wf):=by
 obtain ⟨cs,h,hl,hx,hB⟩:=xA3 Tryz.underlying25 xB4 q hd;match cs,hl with
 | [c0,c1],_ =>
  have h0:=hx 0 (by decide)
  have h1:=hx 1 (by decide)
  change OfTy (.slice [.int .i64]) c0 at h0;change OfTy (.slice tyF) c1 at h1;obtain ⟨l0,rfl,_⟩:=xqV (es:=[.int .i64]) xCK h0;obtain ⟨l1,rfl,w1⟩:=xqV (es:=tyF) xCJ h1;exact ⟨(l0,l1),h,fun μ hμ=>hB μ hμ,w1.2⟩
end
end Go.Sim
end
noncomputable section
set_option maxRecDepth 100000
namespace Go.Sim.M
open Go.RowKit Go.Sim.Srt
def Strict {α:Type} (c:α->α->Int) (l:List α):Prop:=l.Pairwise fun x y=>c x y<0
def Cm.self {α:Type} {c:α->α->Int} (h:Cm c) (x:α):c x x=0:=by have:=h.swap x x;omega
def Strict.nodup {α:Type} {c:α->α->Int} (hc:Cm c) {l:List α} (h:Strict c l):l.Nodup :=
 List.Pairwise.imp (fun {x y} q he=>by subst he;rw [hc.self] at q;omega) h
def Strict.sorted {α:Type} {c:α->α->Int} {l:List α} (h:Strict c l):Sorted c l:=List.Pairwise.imp (fun q=>by omega) h
def xm0 {α:Type} {c:α->α->Int} (hc:Cm c) (h0:∀ x y,c x y=0->x=y) {l m:List α} (hl:Strict c l) (hm:Strict c m) (h:∀ x,x∈l↔x∈m):l=m :=
 xpI hc h0 ((List.perm_ext_iff_of_nodup (hl.nodup hc) (hm.nodup hc)).2 h) hl.sorted hm.sorted
def xBr {α:Type} {c:α->α->Int} (h0:∀ x y,c x y=0->x=y) {l:List α} (hs:Sorted c l) (hn:l.Nodup):Strict c l :=
 (hs.and hn).imp fun {x y} h=>by
  grind
def xw6 (x y:Int):cmpI x y=if x<y then -1 else if y<x then 1 else 0:=rfl
def xlW {p q:Per}:cmpP p q<=0↔p.1<q.1\/p.1=q.1/\p.2<=q.2:=by
 unfold cmpP orI;simp only [xw6];repeat' split
 all_goals omega
def xqk (p q:Per):cmpP q p=-(cmpP p q):=by
 unfold cmpP orI;simp only [xw6];repeat' split
 all_goals omega
def xEL:Cm cmpP:=⟨xqk,fun x y z h1 h2=>by rw [xlW] at *;omega⟩
def xoh (p q:Per) (h:cmpP p q=0):p=q:=by
 have h1:cmpP p q<=0:=by omega
 have h2:cmpP q p<=0:=by rw [xqk];omega
 rw [xlW] at h1 h2;exact Prod.ext (by omega) (by omega)
def xBp {p:Per} {l:List Per} (h:IsSpan (p::l)):IsSpan l:=⟨fun q hq=>h.1 q (by simp [hq]),(zM.1 h.2).2⟩
def xpJ:∀ {A:List Per},IsSpan A->∀ t,A.countP (hasP · t)=if inL A t=true then 1 else 0
 | [],_,t=>by simp [xfc]
 | p::A,h,t=>by
  have ih:=xpJ (xBp h) t;rw [List.countP_cons,ih,xku];cases hp:hasP p t with
  | false=>simp
  | true=>rw [xqR h hp];simp
def xr8 {A:List Per} (h:IsSpan A) (h0:∀ t,inL A t=false):A=[]:=xmm h xfB fun t=>by rw [h0,xfc]
def xBt (N:Nat):∀ n:Nat,((List.range n).map fun h=>if h<N then 1 else 0).sum=min n N
 | 0=>by simp
 | n+1=>by rw [List.range_succ,zx,List.sum_append,xBt N n];simp;split<;>omega
structure IsLevs (N:Int->Nat) (P:List Per):Prop where
 sorted:Sorted cmpP P
 lev:∃ (A:Nat->List Per) (H:Nat),(∀ t,N t<=H)/\(∀ h,IsSpan (A h)/\∀ t,inL (A h) t=decide (h<N t))/\P.Perm ((List.range H).flatMap A)
def xlq (A:Nat->List Per) (H:Nat) (h0:∀ h,H<=h->A h=[]):∀ d,(List.range (H+d)).flatMap A=(List.range H).flatMap A
 | 0=>rfl
 | d+1=>by rw [<-Nat.add_assoc,List.range_succ,List.flatMap_append,xlq A H h0 d,zR,h0 (H+d) (by omega)];simp
def IsLevs.unique {N:Int->Nat} {P P':List Per} (h:IsLevs N P) (h':IsLevs N P'):P=P':=by
 obtain ⟨A,H,h1,h2,h3⟩:=h.lev;obtain ⟨A',H',J,q,Q⟩:=h'.lev;obtain rfl:A=A':=funext fun k=>xmm (h2 k).1 (q k).1 fun t=>by rw [(h2 k).2,(q k).2]
 have nil:∀ K,(∀ t,N t<=K)->∀ k,K<=k->A k=[]:=fun K hK k hk=>xr8 (h2 k).1 fun t=>by rw [(h2 k).2];have:=hK t;simp;omega
 refine xpI xEL xoh (h3.trans (List.Perm.trans (.of_eq ?_) Q.symm)) h.sorted h'.sorted;rcases Nat.le_total H H' with O|O
 . have:=xlq A H (nil H h1) (H' - H);rw [show H+(H' - H)=H' by omega] at this
   exact this.symm
 . have:=xlq A H' (nil H' J) (H - H');rw [show H'+(H - H')=H by omega] at this
   exact this
def IsLevs.count {N:Int->Nat} {P:List Per} (h:IsLevs N P) (t:Int):P.countP (hasP · t)=N t:=by
 obtain ⟨A,H,h1,h2,h3⟩:=h.lev;rw [h3.countP_eq,List.countP_flatMap];have:(List.countP (fun x=>hasP x t)∘A)=fun k=>if k<N t then 1 else 0:=funext fun k=>by
  show List.countP (hasP · t) (A k)=_;rw [xpJ (h2 k).1,(h2 k).2];simp
 rw [this,xBt];have:=h1 t;omega
def IsLevs.valid {N:Int->Nat} {P:List Per} (h:IsLevs N P):∀ p,p∈P->pv p=true:=fun p hp=>by
 obtain ⟨A,H,h1,h2,h3⟩:=h.lev;obtain ⟨k,_,hk⟩:=y5.1 (h3.mem_iff.1 hp);exact (h2 k).1.1 p hk
def xty {A:List Per} {N:Int->Nat} {k:Nat} (hs:IsSpan A) (hN:∀ t,inL A t=decide (k<N t)) {p:Per} (hp:p∈A):(∀ t,p.1<=t->t<p.2->k<N t)/\N (p.1 - 1)<=k/\N p.2<=k:=by
 have hv:=xbT.1 (hs.1 p hp);refine ⟨fun t h1 h2=>?_,?_,?_⟩
 . have:inL A t=true:=xfU.2 ⟨p,hp,hs.1 p hp,h1,h2⟩;rw [hN] at this;simpa using this
 . have:inL A (p.1 - 1)=false:=by
    cases hc:inL A (p.1 - 1) with
    | false=>rfl
    | true =>
     obtain ⟨q,hq,Q,h1,h2⟩:=xfU.1 hc;have hne:p≠q:=fun e=>by subst e;omega
     rcases pairwise_mem hs.2 hp hq hne with h|h<;>omega
   rw [hN] at this;simpa using this
 . have:inL A p.2=false:=by
    cases hc:inL A p.2 with
    | false=>rfl
    | true =>
     obtain ⟨q,hq,Q,h1,h2⟩:=xfU.1 hc;have hne:p≠q:=fun e=>by subst e;omega
     rcases pairwise_mem hs.2 hp hq hne with h|h<;>omega
   rw [hN] at this;simpa using this
where
 pairwise_mem {l:List Per} (h:l.Pairwise fun p q=>p.2<q.1) {p q:Per} (hp:p∈l) (hq:q∈l) (hne:p≠q):p.2<q.1\/q.2<p.1:=by
  induction l with
  | nil=>simp at hp
  | cons x l ih =>
   obtain ⟨h1,h2⟩:=zM.1 h;rcases zC.1 hp with e1|O
   . grind
   grind
def cnt (l:List Fc) (r:Row) (t:Int):Nat:=l.countP fun f=>decide (f.r=r)&&hasP f.p t
def xHA (l:List Fc) (R:List Row):Prop:=Strict cmpR R/\∀ r,r∈R↔∃ f,f∈l/\f.r=r/\pv f.p=true
def xfT {l:List Fc} {r:Row} {t:Int}:0<cnt l r t↔∃ f,f∈l/\f.r=r/\hasP f.p t=true:=by
 unfold cnt;rw [List.countP_pos_iff];simp
def xuG {p:Per} (h:pv p=true):hasP p p.1=true:=by
 have:=xbT.1 h;exact xbm.2 ⟨h,by omega,by omega⟩
def xt6 {p:Per} {t:Int} (h:hasP p t=true):pv p=true:=(xbm.1 h).1
def xnV {l:List Fc} {r:Row}:(∃ f,f∈l/\f.r=r/\pv f.p=true)↔∃ t,0<cnt l r t:=by
 constructor
 . rintro ⟨f,h1,h2,h3⟩;exact ⟨f.p.1,xfT.2 ⟨f,h1,h2,xuG h3⟩⟩
 . rintro ⟨t,h⟩;obtain ⟨f,h1,h2,h3⟩:=xfT.1 h;exact ⟨f,h1,h2,xt6 h3⟩
def xHA.unique {l l':List Fc} {R R':List Row} (h:xHA l R) (h':xHA l' R') (hc:∀ r t,cnt l r t=cnt l' r t):R=R' :=
 xm0 xpf (fun _ _=>xkF) h.1 h'.1 fun r=>by rw [h.2,h'.2,xnV,xnV];simp only [hc]
def xG8 (R:List Row) (L:Row->List Per):List Fc:=R.flatMap fun r=>(L r).map fun p=>⟨r,p⟩
def xy6 (a b:List Fc) (r:Row) (t:Int):cnt (a++b) r t=cnt a r t+cnt b r t:=List.countP_append
def xBR {a b:List Fc} (h:a.Perm b) (r:Row) (t:Int):cnt a r t=cnt b r t:=h.countP_eq _
def xDo (r':Row) (P:List Per) (r:Row) (t:Int):cnt (P.map fun p=>(⟨r',p⟩:Fc)) r t=if r'=r then P.countP (hasP · t) else 0:=by
 unfold cnt;rw [List.countP_map];by_cases h:r'=r
 . rw [if_pos h];congr 1;funext p;simp [h]
 simp_all
def xmp (L:Row->List Per) (r:Row) (t:Int):∀ R:List Row,R.Nodup->cnt (xG8 R L) r t=if r∈R then (L r).countP (hasP · t) else 0
 | [],_=>by simp [xG8,cnt]
 | r'::R,h=>by
  obtain ⟨h1,h2⟩:=List.nodup_cons.1 h;have e:xG8 (r'::R) L=((L r').map fun p=>(⟨r',p⟩:Fc))++xG8 R L:=by simp [xG8]
  rw [e,xy6,xDo,xmp L r t R h2];by_cases hr:r'=r
  . subst hr;simp [h1]
  grind
def xHj (l B:List Fc):Prop:=∃ R L,xHA l R/\(∀ r,r∈R->IsLevs (cnt l r) (L r))/\B=xG8 R L
def xHo (l B:List Fc):Prop:=∃ R L,xHA l R/\(∀ r,r∈R->IsSpan (L r)/\∀ t,inL (L r) t=decide (0<cnt l r t))/\B=xG8 R L
def xoD {R:List Row} {L L':Row->List Per} (h:∀ r,r∈R->L r=L' r):xG8 R L=xG8 R L':=by
 unfold xG8;induction R with
 | nil=>rfl
 | cons r R ih=>rw [zR,zR,h r (by simp),ih fun x hx=>h x (by simp [hx])]
def xHj.unique {l l' B B':List Fc} (h:xHj l B) (h':xHj l' B') (hc:∀ r t,cnt l r t=cnt l' r t):B=B':=by
 obtain ⟨R,L,h1,h2,rfl⟩:=h;obtain ⟨R',L',q,J,rfl⟩:=h';obtain rfl:=h1.unique q hc;refine xoD fun r hr=>(h2 r hr).unique ?_
 have:=J r hr;rwa [<-show cnt l r=cnt l' r from funext fun t=>hc r t] at this
def xHo.unique {l l' B B':List Fc} (h:xHo l B) (h':xHo l' B') (hc:∀ r t,cnt l r t=cnt l' r t):B=B':=by
 obtain ⟨R,L,h1,h2,rfl⟩:=h;obtain ⟨R',L',J,q,rfl⟩:=h';obtain rfl:=h1.unique J hc;exact xoD fun r hr=>xmm (h2 r hr).1 (q r hr).1 fun t=>by rw [(h2 r hr).2,(q r hr).2,hc]
def xHA.zero {l:List Fc} {R:List Row} (h:xHA l R) {r:Row} (hr:r∉R) (t:Int):cnt l r t=0:=by
 cases hc:cnt l r t with
 | zero=>rfl
 | succ n=>exact absurd ((h.2 r).2 (xnV.2 ⟨t,by omega⟩)) hr
def xHj.cntB {l B:List Fc} (h:xHj l B) (r:Row) (t:Int):cnt B r t=cnt l r t:=by
 obtain ⟨R,L,h1,h2,rfl⟩:=h;rw [xmp L r t R (h1.1.nodup xpf)];split
 . rename_i hr;exact (h2 r hr).count t
 . rename_i hr;exact (h1.zero hr t).symm
def xkI {R:List Row} {L:Row->List Per} {f:Fc} (h:f∈xG8 R L):f.r∈R/\f.p∈L f.r:=by
 obtain ⟨r,hr,h⟩:=y5.1 h;obtain ⟨p,hp,rfl⟩:=zK.1 h;exact ⟨hr,hp⟩
def xHj.valid {l B:List Fc} (h:xHj l B) {f:Fc} (hf:f∈B):pv f.p=true/\∃ g,g∈l/\g.r=f.r:=by
 obtain ⟨R,L,h1,h2,rfl⟩:=h;obtain ⟨a,b⟩:=xkI hf;refine ⟨(h2 _ a).valid _ b,?_⟩;obtain ⟨g,g1,g2,_⟩:=(h1.2 _).1 a;exact ⟨g,g1,g2⟩
def psOf (l:List Fc) (r:Row):List Per:=(l.filter fun f=>decide (f.r=r)&&pv f.p).map (·.p)
def xqI (l:List Fc) (r:Row) (t:Int):(psOf l r).countP (hasP · t)=cnt l r t:=by
 unfold psOf cnt;rw [List.countP_map,List.countP_filter];refine List.countP_congr fun f _=>?_
 simp only [Function.comp,zf,zl];constructor
 . rintro ⟨h1,h2,_⟩;exact ⟨h2,h1⟩
 . rintro ⟨h1,h2⟩;exact ⟨h2,h1,xt6 h2⟩
def xCo {l:List Fc} {r:Row}:∀ p,p∈psOf l r->pv p=true:=fun p hp=>by
 obtain ⟨f,hf,rfl⟩:=zK.1 hp;have:=List.mem_filter.1 hf;simp only [zf] at this;exact this.2.2
def xvX (l:List Fc) (r:Row):(psOf l r).length<=l.length:=by unfold psOf;rw [za];exact List.length_filter_le _ _
def xy7 {ps:List Per} {t:Int} {k:Nat} (h1:k<ps.countP (hasP · t)) (h2:ps.countP (hasP · (t - 1))<=k):t∈ps.map (·.1):=by
 have:∃ p,p∈ps/\hasP p t=true/\hasP p (t - 1)=false:=by
  refine Classical.byContradiction fun hn=>?_
  have:ps.countP (hasP · t)<=ps.countP (hasP · (t - 1)):=List.countP_mono_left fun p hp h=>by
   simp_all
  omega
 obtain ⟨p,hp,a,b⟩:=this;obtain ⟨hv,x,y⟩:=xbm.1 a;have:¬ p.1<=t - 1:=fun h=>by rw [xbm.2 ⟨hv,h,by omega⟩] at b;cases b
 exact zK.2 ⟨p,hp,by omega⟩
def xtw {ps A:List Per} {k:Nat} (hs:IsSpan A) (hN:∀ t,inL A t=decide (k<ps.countP (hasP · t))):A.length<=ps.length:=by
 have hn:(A.map (·.1)).Nodup:=by
  unfold List.Nodup;rw [List.pairwise_map];refine List.Pairwise.imp_of_mem (fun {p q} hp hq h=>?_) hs.2
  have:=xbT.1 (hs.1 p hp);omega
 have:(A.map (·.1)) ⊆ ps.map (·.1):=fun t ht=>by
  obtain ⟨p,hp,rfl⟩:=zK.1 ht;obtain ⟨a,b,_⟩:=xty (N:=fun t=>ps.countP (hasP · t)) hs hN hp
  have hv:=xbT.1 (hs.1 p hp);exact xy7 (a p.1 (Int.le_refl _) (by omega)) b
 have:=hn.length_le_of_subset this;simpa using this
def IsLevs.len {ps P:List Per} (h:IsLevs (fun t=>ps.countP (hasP · t)) P):P.length<=ps.length*ps.length:=by
 obtain ⟨A,H,h1,h2,h3⟩:=h.lev;have hx:P.length=((List.range ps.length).flatMap A).length:=by
  rw [h3.length_eq];have nil:∀ k,ps.length<=k->A k=[]:=fun k hk=>xr8 (h2 k).1 fun t=>by
   grind
  have q:∀ k,H<=k->A k=[]:=fun k hk=>xr8 (h2 k).1 fun t=>by
   rw [(h2 k).2];have:=h1 t;simp;omega
  rcases Nat.le_total H ps.length with J|J
  . have:=xlq A H q (ps.length - H);rw [show H+(ps.length - H)=ps.length by omega] at this
    rw [this]
  . have:=xlq A ps.length nil (H - ps.length);rw [show ps.length+(H - ps.length)=H by omega] at this
    rw [this]
 rw [hx];have:=xnC (g:=A) (c:=ps.length) (List.range ps.length) fun k _=>xtw (h2 k).1 (h2 k).2
 simpa using this
def xqv {L:Row->List Per}:∀ {R:List Row} {l:List Fc},R.Nodup->(∀ r,r∈R->(L r).length<=(psOf l r).length*(psOf l r).length)->(xG8 R L).length<=l.length*l.length
 | [],l,_,_=>by simp [xG8]
 | r::R,l,hn,h=>by
  obtain ⟨n1,n2⟩:=List.nodup_cons.1 hn;have e:xG8 (r::R) L=((L r).map fun p=>(⟨r,p⟩:Fc))++xG8 R L:=by simp [xG8]
  let l2:=l.filter fun f=>!decide (f.r=r)
  have J:∀ r',r'∈R->psOf l2 r'=psOf l r':=fun r' q=>by
   have hne:r'≠r:=fun e=>n1 (e▸q)
   unfold psOf;simp only [l2,List.filter_filter];congr 1;refine List.filter_congr fun f _=>?_
   simp_all
  have ih:=xqv (L:=L) (l:=l2) n2 fun r' q=>by rw [J r' q];exact h r' (by simp [q])
  have h1:=h r (by simp)
  have hl:(psOf l r).length+l2.length<=l.length:=by
   unfold psOf;rw [za];have:=List.length_eq_countP_add_countP (fun f:Fc=>decide (f.r=r)) (l:=l)
   have a1:(l.filter fun f=>decide (f.r=r)&&pv f.p).length<=l.countP fun f=>decide (f.r=r):=by
    rw [<-List.countP_eq_length_filter];exact List.countP_mono_left fun f _ hf=>by simp only [zf] at hf;exact hf.1
   have a2:l2.length=l.countP fun f=>¬ decide (f.r=r)=true:=by
    rw [List.countP_eq_length_filter];simp [l2]
   omega
  rw [e,z8,za];have m1:=Nat.mul_le_mul hl hl;have m2:(psOf l r).length*(psOf l r).length+l2.length*l2.length<=((psOf l r).length+l2.length)*((psOf l r).length+l2.length):=by
   grind
  omega
def xHj.len {l B:List Fc} (h:xHj l B):B.length<=l.length*l.length:=by
 obtain ⟨R,L,h1,h2,rfl⟩:=h;refine xqv (h1.1.nodup xpf) fun r hr=>?_
 have:=h2 r hr;rw [show cnt l r=fun t=>(psOf l r).countP (hasP · t) from funext fun t=>(xqI l r t).symm] at this
 exact this.len
abbrev Asc (l:List Int):Prop:=l.Pairwise fun x y=>x<y
structure StepI (N:Int->Int) (T:Int) (S:List Per):Prop where
 asc:S.Pairwise fun a b=>a.1<b.1
 mem:∀ s,s∈S↔0<=s.1/\s.1<T/\s.2=N s.1/\(s.1=0\/N (s.1 - 1)≠s.2)
 last:0<T->∃ S' f,S=S'++[(f,N (T - 1))]
def StepI.nil (N:Int->Int):StepI N 0 []:=⟨List.Pairwise.nil,fun s=>by simp;omega,fun h=>by omega⟩
def putS (S:List Per) (f n:Int):List Per:=match S.getLast? with
 | some s=>if s.2=n then S else S++[(f,n)]
 | none=>S++[(f,n)]
def StepI.unique {N:Int->Int} {T:Int} {S S':List Per} (h:StepI N T S) (h':StepI N T S'):S=S' :=
 xm0 xEL xoh (h.asc.imp fun {x y} q=>by
  have h1:cmpP x y<=0:=xlW.2 (.inl q);by_cases h0:cmpP x y=0
  . have:=xoh x y h0;subst this;omega
  . omega) (h'.asc.imp fun {x y} q=>by
  have h1:cmpP x y<=0:=xlW.2 (.inl q);by_cases h0:cmpP x y=0
  . have:=xoh x y h0;subst this;omega
  . omega) fun s=>by rw [h.mem,h'.mem]
def StepI.put {N:Int->Int} {T T':Int} {S:List Per} (h:StepI N T S) (h0:0<=T) (q:T<T') (hc:∀ t,T<=t->t<T'->N t=N T):StepI N T' (putS S T (N T)):=by
 rcases Int.lt_or_eq_of_le h0 with hp|hz
 . obtain ⟨S',f,rfl⟩:=h.last hp;unfold putS;rw [List.getLast?_append];simp only [List.getLast?_singleton,Option.some_or];by_cases he:N (T - 1)=N T
   . rw [if_pos he];refine ⟨h.asc,fun s=>?_,fun _=>⟨S',f,by rw [he,hc (T' - 1) (by omega) (by omega)]⟩⟩
     rw [h.mem];constructor
     . rintro ⟨a,b,c,d⟩;exact ⟨a,by omega,c,d⟩
     grind
   . rw [if_neg he];refine ⟨?_,fun s=>?_,fun _=>⟨_,T,by rw [hc (T' - 1) (by omega) (by omega)]⟩⟩
     . rw [List.pairwise_append];refine ⟨h.asc,List.pairwise_singleton _ _,fun a ha b hb=>?_⟩
       simp only [zv] at hb;subst hb;exact ((h.mem a).1 ha).2.1
     . rw [zG,h.mem,zv];constructor
       . grind
       grind
 . subst hz;have hS:S=[]:=by
    rw [List.eq_nil_iff_forall_not_mem];intro s hs;have:=(h.mem s).1 hs;omega
   subst hS;refine ⟨by simp [putS],fun s=>?_,fun _=>⟨[],0,by simp [putS];exact (hc (T' - 1) (by omega) (by omega)).symm⟩⟩
   simp only [putS,List.getLast?_nil,zU,zv];constructor
   . simp_all
   . grind
def xl1 (S:List Per) (f n:Int):(putS S f n).length<=S.length+1:=by
 unfold putS;repeat' split
 all_goals simp
def sumC (l:List Cnt) (t:Int):Int:=(l.map fun c=>if hasP c.1 t=true then c.2 else 0).sum
def xuC (c:Cnt) (l:List Cnt) (t:Int):sumC (c::l) t=(if hasP c.1 t=true then c.2 else 0)+sumC l t:=by simp [sumC]
def xuD (ps:List Per) (t:Int):sumC (ps.map fun p=>(p,(1:Int))) t=(ps.countP (hasP · t):Nat):=by
 induction ps with
 | nil=>rfl
 | cons p ps ih =>
  rw [zV,xuC,ih,List.countP_cons];split<;>simp_all<;>omega
def xs2 {α:Type} (l:List α):l=[]\/∃ m a,l=m++[a]:=by
 rcases List.eq_nil_or_concat l with h|⟨m,a,h⟩
 . exact .inl h
 simp_all
def xo5 (S:List Per) (f n:Int) (hS:S.length<=16777216):∃ p,xoq S.length f n (S.map encP)=some p/\br p.1 p.2.1.1 p.2.2.1=(putS S f n).length/\br p.1 p.2.1.2 p.2.2.2=(putS S f n).map encP:=by
 have m1:(S.length+1)*16<=140737488355328:=by omega
 have m2:S.length+1<=4611686018427387904:=by omega
 rcases xs2 S with rfl|⟨S',s,rfl⟩
 . refine ⟨(false,(0,[]),(1,[encP (f,n)])),?_,rfl,rfl⟩;unfold xoq xmi xh4;simp [xbE,encP,sUF]
 . have hk:IntKind.i64.wrap (((S'++[s]).length:Int) - 1)=((S'.length:Nat):Int):=by
    rw [z8,xba (by simp<;>omega) (by simp at hS |-<;>omega)];simp
   have g1:((S'++[s]).length:Int)>0:=by simp<;>omega
   have g2:(S'.length:Int)<((S'++[s]).length:Int):=by simp<;>omega
   have g3:S'.length<(S'++[s]).length:=by simp
   have gf:((S'++[s]).map encP).getD S'.length .top=encP s:=by
    rw [xaK _ _ _ (by simp)];simp
   have hl:(S'++[s]).getLast?=some s:=by simp
   by_cases he:s.2=n
   . refine ⟨(true,((S'++[s]).length,(S'++[s]).map encP),(0,[])),?_,?_,?_⟩
     . unfold xoq xmi xh4;simp only [hk,g1,g2,g3,gf,sBU,cP0,cP1,lP,sP,sP0,sP1,he]
     . simp only [xaj,putS,hl,if_pos he,sUF]
     . simp only [xaj,putS,hl,if_pos he,sUF]
   . have he':(s.2==n)=false:=by simp [he]
     refine ⟨(false,(0,[]),((S'++[s]).length+1,(S'++[s]).map encP++[encP (f,n)])),?_,?_,?_⟩
     . unfold xoq xmi xh4;simp only [hk,g1,g2,g3,gf,sBU,cP0,cP1,lP,sP,sP0,sP1,he',m1,m2];rfl
     . simp only [xaH,putS,hl,if_neg he,sUF];simp
     . simp only [xaH,putS,hl,if_neg he,sUF];simp
def Tame (l:List Cnt):Prop:=l.length<=262144/\∀ c,c∈l->-1099511627776<=c.2/\c.2<=1099511627776
end Go.Sim.M
end
noncomputable section
set_option maxRecDepth 100000
namespace Go.Sim.M
open Go.RowKit Go.Sim.Srt Go.Sort
def chg (c:Cnt):List Per:=if pv c.1=true then [(c.1.1,c.2),(c.1.2,-c.2)] else []
def xw3 {l:List Cnt}:∀ s,s∈l.flatMap chg->0<=s.1/\s.1<=1099511627776:=fun s hs=>by
 obtain ⟨c,hc,h⟩:=y5.1 hs;unfold chg at h;split at h
 . rename_i hv;have:=xbT.1 hv;simp only [zC,List.not_mem_nil,or_false] at h;rcases h with rfl|rfl<;>dsimp only<;>omega
 . simp at h
def xDf (c:Cnt):(chg c).length<=2:=by unfold chg;split<;>simp
def sumS (S:List Per) (t:Int):Int:=(S.map fun s=>if s.1<=t then s.2 else 0).sum
def xrD (a b:List Per) (t:Int):sumS (a++b) t=sumS a t+sumS b t:=by simp [sumS]
def xCI {a b:List Int} (h:a.Perm b):a.sum=b.sum:=by
 induction h with
 | nil=>rfl
 | cons x _ ih=>simp [ih]
 | swap x y l=>simp;omega
 | trans _ _ h1 h2=>rw [h1,h2]
def xBs {a b:List Per} (h:a.Perm b) (t:Int):sumS a t=sumS b t:=xCI (h.map _)
def xwf (t:Int):∀ l:List Cnt,sumS (l.flatMap chg) t=sumC l t
 | []=>rfl
 | c::l=>by
  rw [zR,xrD,xwf t l,xuC];congr 1;unfold chg;cases hv:pv c.1 with
  | false=>simp [sumS,hasP,hv]
  | true =>
   have:=xbT.1 hv;simp only [if_true,sumS,zV,zW,List.sum_cons,List.sum_nil,hasP,hv,Bool.true_and,zf,zl];by_cases h1:c.1.1<=t<;>by_cases h2:c.1.2<=t
   . omega
   . omega
   . omega
   omega
def sum0:∀ L:List Per,(L.map fun _=>(0:Int)).sum=0
 | []=>rfl
 | _::L=>by rw [zV,List.sum_cons,sum0 L];rfl
def preS (S:List Per) (i:Nat):Int:=((S.take i).map (·.2)).sum
def xum (S:List Per) (i:Nat) (h:i<S.length):preS S (i+1)=preS S i+S[i].2:=by
 unfold preS;rw [List.take_add_one,ze h,zx,List.sum_append];simp
def xCm (S:List Per) (i:Nat) (hi:i<=S.length) (t:Int) (h1:∀ k (h:k<S.length),k<i->S[k].1<=t) (h2:∀ k (h:k<S.length),i<=k->t<S[k].1):preS S i=sumS S t:=by
 have e:S=S.take i++S.drop i:=(List.take_append_drop i S).symm
 conv=>rhs;rw [e]
 rw [xrD];have a1:sumS (S.take i) t=preS S i:=by
  unfold sumS preS;congr 1;refine List.map_congr_left fun s hs=>?_
  obtain ⟨k,hk,rfl⟩:=zp.1 hs;rw [zt] at hk;rw [List.getElem_take,if_pos (h1 k (by omega) (by omega))]
 have a2:sumS (S.drop i) t=0:=by
  unfold sumS;have:(S.drop i).map (fun s=>if s.1<=t then s.2 else 0)=(S.drop i).map fun _=>(0:Int):=by
   refine List.map_congr_left fun s hs=>?_
   obtain ⟨k,hk,rfl⟩:=zp.1 hs;rw [y3] at hk;have:=h2 (i+k) (by omega) (by omega)
   rw [List.getElem_drop,if_neg (by omega)]
  rw [this];exact sum0 _
 omega
def xvW {B:Int} (hB:0<=B) (S:List Per) (h:∀ s,s∈S->-B<=s.2/\s.2<=B):∀ i,i<=S.length->-(B*i)<=preS S i/\preS S i<=B*i
 | 0,_=>by simp [preS]
 | i+1,hi=>by
  have ih:=xvW hB S h i (by omega)
  have hs:=h S[i] (zo (by omega))
  rw [xum S i (by omega),show B*((i+1:Nat):Int)=B*(i:Int)+B by rw [Int.natCast_add,Int.mul_add];simp]
  omega
def toS (e:Per):TyS:=(Fin.ofNat 1099511627777 e.1.toNat,e.2)
def ofS (x:TyS):Per:=((x.1.val:Int),x.2)
def xDH {e:Per} (h1:0<=e.1) (h2:e.1<=1099511627776):ofS (toS e)=e:=by
 have:e.1.toNat % 1099511627777=e.1.toNat:=Nat.mod_eq_of_lt (by omega)
 simp only [ofS,toS,Fin.ofNat,this,Int.toNat_of_nonneg h1]
def xD5 (E:List Per) (h:∀ e,e∈E->0<=e.1/\e.1<=1099511627776):(E.map encP).all isS=true/\∃ S:List Per,srtS (E.map encP)=S.map encP/\S.Perm E/\S.Pairwise fun x y=>x.1<=y.1:=by
 refine ⟨?_,(pdqL cmpS (E.map toS)).map ofS,?_,?_,?_⟩
 . rw [zI];intro x hx;obtain ⟨e,he,rfl⟩:=zK.1 hx;have:=h e he;show (decide _&&decide _)=true;rw [decide_eq_true this.1,decide_eq_true this.2];rfl
 . unfold srtS;have e1:(E.map encP).map decS=E.map toS:=by rw [List.map_map];rfl
   rw [e1,List.map_map];rfl
 . have hp:=((xkN cmpS swoS (E.map toS)).1).map ofS;have e2:(E.map toS).map ofS=E:=by
    rw [List.map_map]
    conv=>rhs;rw [<-List.map_id E]
    refine List.map_congr_left fun e he=>?_
    exact xDH (h e he).1 (h e he).2
   rwa [e2] at hp
 . rw [List.pairwise_map];refine (xoH cmpS swoS (E.map toS)).imp fun {x y} q=>?_
   show ((x.1.val:Nat):Int)<=((y.1.val:Nat):Int);unfold cmpS at q;omega
def xDD (n o:Nat):xh3 n o=xdP n o 0:=rfl
def xsa (l:List Cnt) (hl:l.length<=1048576) (ht:∀ c,c∈l->-1099511627776<=c.2/\c.2<=1099511627776):Iter (xeN (l.map encC) ((l.length:Nat):Int)) ((0:Nat),(0:Int),[])=some ((l.flatMap (fun (f:Cnt)=>chg f)).length,(l.flatMap (fun (f:Cnt)=>chg f)).map encP):=by
 refine xrR l (fun (f:Cnt)=>chg f) encP 2 (fun f hf=>?_) (fun n h D hD=>?_) (fun D=>?_)
 . cases q:(pv (f).1)<;>simp [chg,q]
 . have h1:(n:Int)<(l.length:Int):=by omega
   have m1:(D.length+2)*16<=140737488355328:=by omega
   have m2:D.length+2<=4611686018427387904:=by omega
   have gf:(l.map encC).getD n .top=encC l[n]:=xaK _ _ _ h;have hm:=ht l[n] (zo h);have hw:IntKind.i64.wrap (0 - l[n].2)=-l[n].2:=by rw [xba (by omega) (by omega)];omega
   simp only [xeN,xkn,sBU,h,h1,gf,cC0,cC1,cC2,lC,sC,sC3,sC2,xkO,hw,m1,m2,xHc (n:=n) (by omega)]
   cases q:(pv (l[n]).1)<;>simp [encP,xaj,xaH,encR,chg,q,sUF]
 . simp only [xeN,xkn,za,zy,zm,xaH,sUF]
def xrQ (S:List Per) (hS:S.length<=1048576) (hb:∀ s,s∈S->-1099511627776<=s.2/\s.2<=1099511627776) (on:Nat) (at':Int) (ox:List AV):∀ (d i:Nat),i+d=S.length->∃ j:Nat,i<=j/\j<=S.length/\(∀ k (h:k<S.length),i<=k->k<j->S[k].1=at')/\(∀ h:j<S.length,S[j].1≠at') /\
  Iter (xdP S.length on at') (preS S i,(i:Int),S.map encP,ox)=some (preS S j,(j:Int),S.map encP,ox)
 | 0,i,h=>by
  refine ⟨i,zd _,by omega,fun k _ h1 h2=>by omega,fun h=>by omega,xaI ?_⟩
  have i1:¬ (i:Int)<(S.length:Int):=by omega
  simp only [xdP,xh7,xhG,i1,zm,xaH,sUF]
 | d+1,i,h=>by
  have hi:i<S.length:=by omega
  have i1:(i:Int)<(S.length:Int):=by omega
  have gf:(S.map encP).getD i .top=encP S[i]:=xaK _ _ _ hi;by_cases he:S[i].1=at'
  . obtain ⟨j,h1,h2,h3,h4,h5⟩:=xrQ S hS hb on at' ox d (i+1) (by omega)
    refine ⟨j,by omega,h2,fun k hk a b=>?_,h4,?_⟩
    . grind
    . have hp:=xvW (B:=1099511627776) (by omega) S hb i (by omega)
      have hs:=hb S[i] (zo hi);rw [xaT (s':=(preS S (i+1),((i+1:Nat):Int),S.map encP,ox)) ?_,h5];simp only [xdP,xh7,xhG,sBU,hi,i1,gf,cP0,cP1,lP,sP,sP0,sP1,he,xHc (n:=i) (by omega),xum S i hi]
      rw [xba (by omega) (by omega)]
  . have he':(S[i].1==at')=false:=by simp [he]
    refine ⟨i,zd _,by omega,fun k _ h1 h2=>by omega,fun _=>he,xaI ?_⟩
    simp only [xdP,xh7,xhG,sBU,hi,i1,gf,cP0,cP1,lP,sP,sP0,sP1,he']
def xjf (l:List Cnt) (hl:Tame l):∃ S,xaL (l.map encC)=some (S.map encP)/\StepI (sumC l) 1099511627776 S/\S.length<=2*l.length+1:=by
 have aw:=hl.1;have e0:=xsa l (by omega) hl.2
 have hE:=xnC (g:=chg) (c:=2) l fun c _=>xDf c
 obtain ⟨ah,S,hS,hp,ap⟩:=xD5 (l.flatMap chg) xw3;have ag:S.length=(l.flatMap chg).length:=hp.length_eq;have V:∀ s,s∈S->0<=s.1/\s.1<=1099511627776:=fun s hs=>xw3 s (hp.mem_iff.1 hs)
 have hb:∀ s,s∈S->-1099511627776<=s.2/\s.2<=1099511627776:=fun s hs=>by
  obtain ⟨c,hc,h⟩:=y5.1 (hp.mem_iff.1 hs);have:=hl.2 c hc;unfold chg at h;split at h
  . grind
  . simp at h
 have hN:∀ t,sumS S t=sumC l t:=fun t=>by rw [xBs hp,xwf]
 have O:∀ a b (ha:a<S.length) (hb:b<S.length),a<=b->S[a].1<=S[b].1:=fun a b ha hb al=>by
  rcases Nat.lt_or_eq_of_le al with h|h
  . exact zB.1 ap a b ha hb h
  . subst h;exact Int.le_refl _
 let T:Nat->Int:=fun i=>if h:i<S.length then S[i].1 else 1099511627776
 have step:∀ (out:List Per) (i j:Nat) (at':Int),0<=at'->i<=j->j<=S.length->StepI (sumC l) at' out->at'<1099511627776->(∀ k (h:k<S.length),k<i->S[k].1<=at')->(∀ k (h:k<S.length),i<=k->at'<=S[k].1)->(∀ k (h:k<S.length),i<=k->k<j->S[k].1=at')->(∀ h:j<S.length,S[j].1≠at') ->
   preS S j=sumC l at'/\StepI (sumC l) (T j) (putS out at' (preS S j))/\at'<T j/\∀ k (h:k<S.length),k<j->S[k].1<=at':=fun out i j at' h0 af hj Q hF ab aj an hne=>by
  have a1:∀ k (h:k<S.length),k<j->S[k].1<=at':=fun k h hk=>by
   grind
  have a2:∀ k (h:k<S.length),j<=k->at'<S[k].1:=fun k h hk=>by
   grind
  have hT:at'<T j:=by
   grind
  have ac:∀ t,at'<=t->t<T j->preS S j=sumC l t:=fun t h1 h2=>by
   rw [<-hN];refine xCm S j hj t (fun k h hk=>by have:=a1 k h hk;omega) fun k h hk=>?_
   grind
  have e:=ac at' (Int.le_refl _) hT;refine ⟨e,?_,hT,a1⟩;rw [e];exact Q.put h0 hT fun t h1 h2=>by rw [<-ac t h1 h2,e]
 have ad:∀ (out:List Per) (f n:Int),out.length<=2*l.length+1->∃ p,xbB out.length f n (out.map encP)=some p/\br p.1 p.2.1.1 p.2.2.1=(putS out f n).length/\br p.1 p.2.1.2 p.2.2.2=(putS out f n).map encP:=fun out f n h=>xo5 out f n (by omega)
 obtain ⟨j0,_,ai,h3,h4,e1⟩:=xrQ S (by omega) hb 0 0 ([]:List AV) S.length 0 (by omega)
 obtain ⟨_,ao,_,aq⟩:=step [] 0 j0 0 (Int.le_refl _) (zQ _) ai (.nil _) (by omega) (fun k _ h=>by omega) (fun k h _=>(V _ (zo h)).1) h3 h4
 obtain ⟨p0,ae,Y,aa⟩:=ad [] 0 (preS S j0) (by simp)
 have o0:putS [] 0 (preS S j0)=[(0,preS S j0)]:=rfl;obtain ⟨r,hr,out,rfl,Q,ak⟩:=xpq (step:=xeO S.length)
  (fun s=>∃ (out:List Per) (i:Nat),s=(out.length,preS S i,(i:Int),S.map encP,out.map encP)/\i<=S.length/\StepI (sumC l) (T i) out/\out.length<=i+1/\∀ k (h:k<S.length) (hi:i<S.length),k<i->S[k].1<=S[i].1) (fun s=>(S.length - s.2.2.1.toNat)) (fun r=>∃ out:List Per,r=(out.length,out.map encP)/\StepI (sumC l) 1099511627776 out/\out.length<=2*l.length+1)
  (by
   rintro _ ⟨out,i,rfl,hi,W,au,ab⟩;by_cases q:i<S.length
   . have i1:(i:Int)<(S.length:Int):=by omega
     have gf:(S.map encP).getD i .top=encP S[i]:=xaK _ _ _ q;have Z:T i=S[i].1:=dif_pos q;by_cases hF:S[i].1<1099511627776
     . left;obtain ⟨j,a1,a2,a3,a4,a5⟩:=xrQ S (by omega) hb out.length S[i].1 (out.map encP) (S.length - i) i (by omega)
       rw [Z] at W;obtain ⟨b1,b2,b3,b4⟩:=step out i j S[i].1 (V _ (zo q)).1 a1 a2 W hF (fun k h hk=>O k i h q (by omega)) (fun k h hk=>O i k q h hk) a3 a4
       have af:i<j:=by
        grind
       obtain ⟨p,ae,Y,aa⟩:=ad out S[i].1 (preS S j) (by omega)
       have ar:=xl1 out S[i].1 (preS S j);refine ⟨((putS out S[i].1 (preS S j)).length,preS S j,(j:Int),S.map encP,(putS out S[i].1 (preS S j)).map encP),?_,⟨_,j,rfl,a2,b2,by omega,fun k h hj hk=>O k j h hj (by omega)⟩,by dsimp only;rw [zN,zN];omega⟩
       simp only [xeO,xh6,xdy,xhF,xd2,xgV,xgW,xfo,sBU,q,i1,gf,cP0,cP1,lP,sP,sP0,sP1,hF,a5,ae,Y,aa]
     . right;have am:S[i].1=1099511627776:=by have:=(V _ (zo q)).2;omega
       refine ⟨(out.length,out.map encP),?_,out,rfl,by rw [<-am,<-Z];exact W,by omega⟩
       simp only [xeO,xh6,xdy,xhF,xd2,xgV,xgW,xfo,sBU,q,i1,gf,cP0,cP1,lP,sP,sP0,sP1,hF]
   . right;have i1:¬ (i:Int)<(S.length:Int):=by omega
     have Z:T i=1099511627776:=dif_neg q;refine ⟨(out.length,out.map encP),?_,out,rfl,by rw [<-Z];exact W,by omega⟩
     simp only [xeO,xh6,xdy,xhF,xd2,xgV,xgW,xfo,sBU,i1])
  (([(0,preS S j0)]:List Per).length,preS S j0,(j0:Int),S.map encP,([(0,preS S j0)]:List Per).map encP) ⟨[(0,preS S j0)],j0,rfl,ai,ao,by simp,fun k h hj hk=>O k j0 h hj (by omega)⟩
 refine ⟨out,?_,Q,ak⟩;have d1:(l.flatMap chg).length<4611686018427387904:=by omega
 have d2:((l.flatMap chg).length).beq (l.flatMap chg).length=true:=Nat.beq_refl _;have e1':Iter (xh3 (l.flatMap chg).length 0) ((0:Int),(0:Int),S.map encP,[])=some (preS S j0,(j0:Int),S.map encP,[]):=by
  rw [xDD,<-ag];exact e1
 rw [ag] at hr;unfold xaL xpK;have hp1':xbB 0 0 (preS S j0) []=some p0:=ae;rw [o0] at Y aa;simp only [xke,xoQ,xg1,xoR,xhH,xn8,xeX,za,e0,zh,zk,xaj,ah,hS,d1,d2,e1',hp1',Y,aa,hr,zn,zS,sOO,sUF]
end Go.Sim.M
end
noncomputable section
set_option maxRecDepth 100000
namespace Go.Sim.M
open Go.RowKit Go.Sim.Srt
def xH3 {n:Nat} (h:n+1<=4611686018427387904):IntKind.i64.wrap (((n+1:Nat):Int) - 1)=(n:Int):=by rw [xba (by omega) (by omega)];omega
def tkP (p:Per):List.take 1 (encP p).cells=[.int .i64 p.1]:=rfl
def dpP (p:Per):List.drop 2 (encP p).cells=[]:=rfl
def aggP (a b:Int):AV.agg [.int .i64 a,.int .i64 b]=encP (a,b):=rfl
def xB9 {α:Type} (l:List α) (x d:α):(l++[x]).getD l.length d=x:=by simp
def xDU {α:Type} (l:List α) (x y:α):(l++[x]).set l.length y=l++[y]:=by simp
def xHb (st:List Per):List Int:=st.flatMap fun s=>List.replicate s.2.toNat s.1
def xhV (st:List Per) (f m:Int):xHb (st++[(f,m)])=xHb st++List.replicate m.toNat f:=by simp [xHb]
def StOk (st:List Per):Prop:=∀ s,s∈st->1<=s.2
def StOk.len {st:List Per} (h:StOk st):st.length<=(xHb st).length:=by
 unfold xHb;induction st with
 | nil=>simp
 | cons s st ih =>
  have h1:=h s (by simp)
  have:=ih fun s hs=>h s (by simp [hs])
  grind
def xtA (J n:Int) (v:Nat) (k t2 f:Int) (q:List Per) (ti:Nat) (O:ti<q.length) (hf:q[ti].1=f) (K:Nat) (hK:K<=1048576):∀ (d j:Nat) (ox:List Per) (vo:Nat),j+d=K->ox.length+d<=1099511627776 ->
  Iter (xdb J n v ti k (K:Int)) ((j:Int),t2,q.length,v,ox.length,vo,v,q.map encP,vo,ox.map encP)=some (t2,v,q.length,vo+d,(ox++List.replicate d (f,J)).length,q.map encP,v,(ox++List.replicate d (f,J)).map encP,vo+d)
 | 0,j,ox,vo,h,hb=>by
  obtain rfl:j=K:=by omega
  refine xaI ?_;simp only [xdb,xiF,zy,zm,xaH,List.replicate_zero,zD,Nat.add_zero,sUF]
 | d+1,j,ox,vo,h,hb=>by
  have i1:(j:Int)<(K:Int):=by omega
  have gf:(q.map encP).getD ti .top=encP q[ti]:=xaK _ _ _ O;have m1:(ox.length+1)*16<=140737488355328:=by omega
  have m2:ox.length+1<=4611686018427387904:=by omega
  have tk:List.take q.length (q.map encP)=q.map encP:=zi (by simp)
  rw [xaT (s':=(((j+1:Nat):Int),t2,q.length,v,(ox++[(f,J)]).length,vo+1,v,q.map encP,vo+1,(ox++[(f,J)]).map encP)) ?_,xtA J n v k t2 f q ti O hf K hK d (j+1) (ox++[(f,J)]) (vo+1) (by omega) (by rw [z8,zj];omega)]
  . grind
  . simp only [xdb,xiF,sBU,i1,O,gf,cP0,cP1,lP,sP,sP0,sP1,hf,m1,m2,tk,xHc (n:=j) (by omega)]
    simp [encP]
def xyD {α:Type} (n:Nat) (a:α):(List.replicate n a).reverse=List.replicate n a:=List.reverse_replicate ..
def xtz (q:Int) (n:Nat):∀ (c:Nat) (J:List Per) (h:Nat) (ox:List Per) (v vo:Nat),J.length<=c->StOk J->(xHb J).length=h->n<=h->h<=1048576->ox.length+h<=1099511627776 ->
  ∃ (O Q:List Per) (V:Nat),Iter (xcs q (n:Int)) ((h:Int),J.length,v,ox.length,vo,v,J.map encP,vo,ox.map encP)=some ((n:Int),v,O.length,V,Q.length,O.map encP,v,Q.map encP,V) /\
   StOk O/\xHb O=(xHb J).take n/\Q=ox++(((xHb J).drop n).reverse.map fun f=>(f,q))
 | c,J,h,ox,v,vo,hc,hs,hh,hn,hb,ho=>by
  by_cases ab:n=h
  . subst ab;refine ⟨J,ox,vo,xaI ?_,hs,?_,?_⟩
    . have i1:¬ ((n:Int)>(n:Int)):=by omega
      simp only [xcs,xfe,i1,zm,xaH,sUF]
    . rw [zi (by omega)]
    . rw [zq (by omega)];simp
  . have ad:n<h:=by omega
    rcases xs2 J with rfl|⟨st,⟨f,m⟩,rfl⟩
    . simp [xHb] at hh;omega
    . have hm:=hs (f,m) (by simp)
      dsimp only at hm;have W:StOk st:=fun s h=>hs s (by simp [h])
      have aa:(xHb st).length+m.toNat=h:=by rw [<-hh,xhV,z8,List.length_replicate]
      obtain ⟨M,rfl⟩:∃ M:Nat,m=(M:Int):=⟨m.toNat,by omega⟩
      rw [zN] at aa;have sl:=hs.len;rw [z8,zj] at hc sl;rw [hh] at sl;have L1:(st++[(f,(M:Int))]).length=st.length+1:=by simp
      have i1:(h:Int)>(n:Int):=by omega
      have w1:IntKind.i64.wrap (((st.length+1:Nat):Int) - 1)=(st.length:Int):=xH3 (by omega)
      have w2:IntKind.i64.wrap ((h:Int) - (n:Int))=((h - n:Nat):Int):=by rw [xba (by omega) (by omega)];omega
      have i2:(st.length:Int)<((st.length+1:Nat):Int):=by omega
      have i3:st.length<(st++[(f,(M:Int))]).length:=by omega
      have g0:(st++[(f,(M:Int))])[st.length]'i3=(f,(M:Int)):=by simp
      have gf:((st++[(f,(M:Int))]).map encP).getD st.length .top=encP (f,(M:Int)):=by rw [xaK _ _ _ i3,g0]
      have tk:List.take (st.length+1) ((st++[(f,(M:Int))]).map encP)=(st++[(f,(M:Int))]).map encP:=zi (by simp)
      have Z:∀ x:AV,((st++[(f,(M:Int))]).map encP).set st.length x=st.map encP++[x]:=fun x=>by
       simp_all
      have gl:∀ x:AV,(st.map encP++[x]).getD st.length .top=x:=fun x=>by have:=xB9 (st.map encP) x .top;rwa [za] at this
      have tl:∀ x:AV,List.take st.length (st.map encP++[x])=st.map encP:=fun x=>by
       simp_all
      by_cases hk:M<=h - n
      ·
       have i4:¬ ((h - n:Nat):Int)<(M:Int):=by omega
       have e1:=xtA q (n:Int) v (M:Int) (h:Int) f (st++[(f,(M:Int))]) st.length i3 (by rw [g0]) M (by omega) M 0 ox vo (by omega) (by omega)
       rw [L1] at e1;obtain ⟨O,Q,V,e2,h1,h2,h3⟩:=xtz q n (c - 1) st (h - M) (ox++List.replicate M (f,q)) v (vo+M) (by omega) W (by omega) (by omega) (by omega) (by rw [z8,List.length_replicate];omega)
       refine ⟨O,Q,V,(xaT (s':=(((h - M:Nat):Int),st.length,v,(ox++List.replicate M (f,q)).length,vo+M,v,st.map encP,vo+M,(ox++List.replicate M (f,q)).map encP)) ?_).trans e2,h1,?_,?_⟩
       . have w3:IntKind.i64.wrap ((h:Int) - (M:Int))=((h - M:Nat):Int):=by rw [xba (by omega) (by omega)];omega
         have w4:IntKind.i64.wrap ((M:Int) - (M:Int))=0:=by rw [Int.sub_self];rfl
         have i5:(st.length:Int)<=((st.length+1:Nat):Int):=by omega
         have e1:Iter (xdb q (n:Int) v st.length (M:Int) (M:Int)) ((0:Int),(h:Int),st.length+1,v,ox.length,vo,v,(st++[(f,(M:Int))]).map encP,vo,ox.map encP)=_:=e1;simp only [xcs,xfe,xdL,xda,xeJ,xeK,xaJ,xdC,xhf,xbb,sBU,L1,i1,i2,w1,w2,w3,w4,i4,i5,gf,cP0,cP1,lP,sP,sP0,sP1,tk,e1,if_false,Z,gl,tl,z8,zj,Nat.lt_succ_self,tkP,dpP,aggP,zD,List.singleton_append]
         try simp [xaj,tl,gl,sUF]
       . rw [h2,xhV,List.take_append_of_le_length (by omega)]
       . rw [h3,xhV,zN,List.drop_append_of_le_length (by omega),List.reverse_append,xyD,zx,List.map_replicate,zw]
      ·
       have i4:((h - n:Nat):Int)<(M:Int):=by omega
       have e1:=xtA q (n:Int) v ((h - n:Nat):Int) (h:Int) f (st++[(f,(M:Int))]) st.length i3 (by rw [g0]) (h - n) (by omega) (h - n) 0 ox vo (by omega) (by omega)
       rw [L1] at e1;refine ⟨st++[(f,((M - (h - n):Nat):Int))],ox++List.replicate (h - n) (f,q),vo+(h - n),(xaT (s':=((n:Int),st.length+1,v,(ox++List.replicate (h - n) (f,q)).length,vo+(h - n),v,(st++[(f,((M - (h - n):Nat):Int))]).map encP,vo+(h - n),(ox++List.replicate (h - n) (f,q)).map encP)) ?_).trans (xaI ?_),?_,?_,?_⟩
       . have w3:IntKind.i64.wrap ((h:Int) - ((h - n:Nat):Int))=(n:Int):=by rw [xba (by omega) (by omega)];omega
         have w4:IntKind.i64.wrap ((M:Int) - ((h - n:Nat):Int))=((M - (h - n):Nat):Int):=by rw [xba (by omega) (by omega)];omega
         have i6:(((M - (h - n):Nat):Int)==0)=false:=by simp;omega
         have e1:Iter (xdb q (n:Int) v st.length ((h - n:Nat):Int) ((h - n:Nat):Int)) ((0:Int),(h:Int),st.length+1,v,ox.length,vo,v,(st++[(f,(M:Int))]).map encP,vo,ox.map encP)=_:=e1;have Y:∀ x:AV,List.take (st.length+1) (st.map encP++[x])=st.map encP++[x]:=fun x=>zi (by simp)
         simp only [xcs,xfe,xdL,xda,xeJ,xeK,xaJ,xdC,xhf,xbb,sBU,L1,i1,i2,w1,w2,w3,w4,i4,gf,cP0,cP1,lP,sP,sP0,sP1,tk,e1,if_true,Z,gl,tl,Y,z8,zj,Nat.lt_succ_self,tkP,dpP,aggP,zD,List.singleton_append]
         try simp [xaj,xaH,tl,Y,gl,i6,sUF]
       . have i5:¬ ((n:Int)>(n:Int)):=by omega
         simp only [xcs,xfe,i5,zm,xaH,z8,zj,sUF]
       . intro s ac;rcases zG.1 ac with h1|h1
         . exact W s h1
         grind
       . rw [xhV,xhV,zN,zN,List.take_append];have:(xHb st).take n=xHb st:=zi (by omega)
         grind
       . rw [xhV,zN,List.drop_append,zq (show (xHb st).length<=n by omega),zU,List.drop_replicate,xyD,List.map_replicate,show M - (n - (xHb st).length)=h - n by omega]
def xyG (J:Int) (n h:Nat) (q ox:List Per) (hs:StOk q) (hh:(xHb q).length=h) (hn:n<=1048576) (hb:h<=1048576) (ho:ox.length+1048576<=1099511627776) :
  ∃ O:List Per,set2 J (n:Int) (h:Int) q.length ox.length (q.map encP) (ox.map encP)=some ((n:Int),O.length,(ox++(((xHb q).drop n).reverse.map fun f=>(f,J))).length,O.map encP,(ox++(((xHb q).drop n).reverse.map fun f=>(f,J))).map encP) /\
   StOk O/\xHb O=(xHb q).take n++List.replicate (n - h) J:=by
 have sl:=hs.len;rw [hh] at sl;have tk:List.take q.length (q.map encP)=q.map encP:=zi (by simp)
 by_cases aa:h<n
 . have i1:(n:Int)>(h:Int):=by omega
   have w1:IntKind.i64.wrap ((n:Int) - (h:Int))=((n - h:Nat):Int):=by rw [xba (by omega) (by omega)];omega
   have W:StOk (q++[(J,((n - h:Nat):Int))]):=fun s h1=>by
    rcases zG.1 h1 with h1|h1
    . exact hs s h1
    grind
   have hf:xHb (q++[(J,((n - h:Nat):Int))])=xHb q++List.replicate (n - h) J:=by rw [xhV,zN]
   have Q:(xHb (q++[(J,((n - h:Nat):Int))])).length=n:=by rw [hf,z8,List.length_replicate];omega
   obtain ⟨O,Z,V,e,h1,h2,h3⟩:=xtz J n (q.length+1) (q++[(J,((n - h:Nat):Int))]) n ox 1 0 (by simp) W Q (zd _) hn (by omega)
   refine ⟨O,?_,h1,?_⟩
   . have d1:(xHb q).drop n=[]:=zq (by omega)
     have d2:(xHb (q++[(J,((n - h:Nat):Int))])).drop n=[]:=zq (by omega)
     rw [d2] at h3;subst h3;rw [d1];have m1:(q.length+1)*16<=140737488355328:=by omega
     have m2:q.length+1<=4611686018427387904:=by omega
     have Y:List.take (q.length+1) (q.map encP++[AV.agg [.int .i64 J,.int .i64 ((n - h:Nat):Int)]])=(q++[(J,((n - h:Nat):Int))]).map encP:=by
      rw [zi (by simp),zx];rfl
     rw [z8,zj] at e;unfold set2 xjH xi9;simp only [xch,xci,xjI,xjJ,i1,w1,zn,xaj,za,beq_self_eq_true,m1,m2,Bool.and_self,Y,e,zk,zh,Option.bind_some,Nat.beq_refl,sUF]
   grind
 . obtain ⟨O,Z,V,e,h1,h2,h3⟩:=xtz J n q.length q h ox 0 0 (zd _) hs hh (by omega) hb (by omega)
   refine ⟨O,?_,h1,by rw [h2,show n - h=0 by omega];simp⟩
   have i1:¬ (n:Int)>(h:Int):=by omega
   subst h3;unfold set2 xjH xi9;simp only [xch,xci,xjI,xjJ,i1,zm,xaH,tk,e,zk,zh,xaj,Option.bind_some,Nat.beq_refl,Bool.and_self,sUF]
def setF (s:List Int×List Per) (q:Int×Nat):List Int×List Per:=(s.1.take q.2++List.replicate (q.2 - s.1.length) q.1,s.2++((s.1.drop q.2).reverse.map fun f=>(f,q.1)))
def xrg {α β:Type} (A B:α->List β):∀ l:List α,(l.flatMap fun k=>A k++B k).Perm (l.flatMap A++l.flatMap B)
 | []=>List.Perm.refl _
 | a::l=>by
  rw [zR,zR,zR];have ih:=xrg A B l;refine (ih.append_left (A a++B a)).trans ?_;rw [zw,zw];refine List.Perm.append_left _ ?_;rw [<-zw,<-zw];exact List.Perm.append_right _ List.perm_append_comm
def xsQ {β:Type} (g:Int->β):∀ (F:List Int) (H n:Nat),F.length<=H->(List.range H).flatMap (fun k=>if n<=k then (F[k]?).toList.map g else [])=(F.drop n).map g
 | [],H,n,_=>by
  simp_all
 | x::F,0,n,h=>by simp at h
 | x::F,H+1,n,h=>by
  rw [List.range_succ_eq_map,zR,List.flatMap_map];have ih:=xsQ g F H (n - 1) (by simpa using h)
  have e:(List.range H).flatMap (fun a=>if n<=a.succ then (((x::F)[a.succ]?).toList).map g else [])=(F.drop (n - 1)).map g:=by
   simp_all
  rw [e];cases n with
  | zero=>simp
  | succ n=>simp
structure LvI (N:Int->Nat) (H:Nat) (at':Int) (F:List Int) (out:List Per) (A:Nat->List Per):Prop where
 perm:out.Perm ((List.range H).flatMap A)
 span:∀ k,IsSpan (A k)
 low:∀ k (h:k<F.length),F[k]<=at'/\0<=F[k]/\∀ p,p∈A k->p.2<F[k]
 high:∀ k,F.length<=k->∀ p,p∈A k->p.2<=at'
 cov:∀ k t,t<=at'->((inL (A k) t=true\/∃ h:k<F.length,F[k]<=t)↔k<N t)
 len:F.length=N at'
 top:F.length<=H
def LvI.start {N:Int->Nat} {H:Nat} (h0:∀ t,t<0->N t=0):LvI N H (-1) [] [] fun _=>[] where
 perm:=by
  simp_all
 span _:=xfB
 low k h:=by simp at h
 high k _ p hp:=by simp at hp
 cov k t ht:=by rw [h0 t (by omega),xfc];simp
 len:=by rw [h0 _ (by omega)];rfl
 top:=zQ _
def LvI.set {N:Int->Nat} {H:Nat} {a b:Int} {F:List Int} {out:List Per} {A:Nat->List Per} (h:LvI N H a F out A) (ad:a<b) (h0:0<=b) (hb:b<=1099511627776) (hc:∀ t,a<=t->t<b->N t=N a) (hH:N b<=H) :
  ∃ A',LvI N H b (setF (F,out) (b,N b)).1 (setF (F,out) (b,N b)).2 A':=by
 have hl:=h.len;refine ⟨fun k=>A k++(if N b<=k then (F[k]?).toList.map (fun f=>(f,b)) else []),?_,?_,?_,?_,?_,?_,?_⟩
 . refine (List.Perm.append h.perm ?_).trans (xrg A _ _).symm;rw [xsQ (fun f=>(f,b)) F H (N b) h.top]
   exact (List.reverse_perm _).map _
 . intro k;by_cases hk:N b<=k
   . rw [if_pos hk];by_cases J:k<F.length
     . obtain ⟨l1,l2,l3⟩:=h.low k J;rw [ze J];refine ⟨fun p hp=>?_,List.pairwise_append.2 ⟨(h.span k).2,by simp,fun p hp q hq=>?_⟩⟩
       . rcases zG.1 hp with hp|hp
         . exact (h.span k).1 p hp
         . simp at hp;subst hp;exact xbT.2 ⟨l2,by dsimp only;omega,hb⟩
       . simp at hq;subst hq;exact l3 p hp
     . rw [zz (by omega)];simpa using h.span k
   . rw [if_neg hk,zD];exact h.span k
 . intro k hk;simp only [setF] at hk |-;rw [z8,zt,List.length_replicate] at hk;have O:¬ N b<=k:=by omega
   simp only [O,if_false,zD];by_cases J:k<F.length
   . rw [List.getElem_append_left (by rw [zt];omega),List.getElem_take]
     obtain ⟨l1,l2,l3⟩:=h.low k J;exact ⟨by omega,l2,l3⟩
   . rw [List.getElem_append_right (by rw [zt];omega),List.getElem_replicate]
     exact ⟨Int.le_refl _,h0,fun p hp=>by have:=h.high k (by omega) p hp;omega⟩
 . intro k hk p hp;simp only [setF] at hk;rw [z8,zt,List.length_replicate] at hk;have O:N b<=k:=by omega
   simp only [O,if_true] at hp;by_cases J:k<F.length
   . rw [ze J] at hp;rcases zG.1 hp with hp|hp
     . obtain ⟨l1,l2,l3⟩:=h.low k J;have:=l3 p hp;omega
     simp_all
   . rw [zz (by omega)] at hp
     simp at hp;have:=h.high k (by omega) p hp;omega
 . intro k t ht;have Q:(setF (F,out) (b,N b)).1=F.take (N b)++List.replicate (N b - F.length) b:=rfl;have key:(∃ hh:k<(setF (F,out) (b,N b)).1.length,(setF (F,out) (b,N b)).1[k]<=t)↔(k<N b/\((∃ hh:k<F.length,F[k]<=t)\/(F.length<=k/\b<=t))):=by
    constructor
    . grind
    . grind
   rw [key];have aa:inL (A k++(if N b<=k then (F[k]?).toList.map (fun f=>(f,b)) else [])) t=true↔inL (A k) t=true\/(N b<=k/\(∃ hh:k<F.length,F[k]<=t)/\t<b):=by
    rw [xlf,Bool.or_eq_true];refine or_congr Iff.rfl ?_;by_cases O:N b<=k
    . rw [if_pos O];by_cases J:k<F.length
      . obtain ⟨l1,l2,l3⟩:=h.low k J;rw [ze J];have e:inL ((some F[k]).toList.map fun f=>(f,b)) t=hasP (F[k],b) t:=by simp [inL]
        rw [e,xbm,xbT];dsimp only;constructor
        . rintro ⟨_,h2,h3⟩;exact ⟨O,⟨J,h2⟩,h3⟩
        omega
      . rw [zz (by omega)]
        simp only [Option.toList_none,zW,xfc,zT,false_iff];rintro ⟨_,⟨hh,_⟩,_⟩;omega
    . rw [if_neg O,xfc];simp only [zT,false_iff];rintro ⟨hh,_⟩;omega
   rw [aa];by_cases ac:t<=a
   . have W:=h.cov k t ac;rw [<-W];constructor
     . grind
     grind
   . have Y:inL (A k) t=true->False:=fun hi=>by
      obtain ⟨p,hp,_,p1,p2⟩:=xfU.1 hi;by_cases J:k<F.length
      . obtain ⟨l1,l2,l3⟩:=h.low k J;have:=l3 p hp;omega
      . have:=h.high k (by omega) p hp;omega
     have ab:(∃ hh:k<F.length,F[k]<=t)↔k<F.length:=⟨fun ⟨hh,_⟩=>hh,fun hh=>⟨hh,by have:=(h.low k hh).1;omega⟩⟩
     rw [ab];by_cases Z:t<b
     . grind
     . grind
 . show (F.take (N b)++List.replicate (N b - F.length) b).length=N b;rw [z8,zt,List.length_replicate];omega
 . show (F.take (N b)++List.replicate (N b - F.length) b).length<=H;rw [z8,zt,List.length_replicate];omega
def xqm {N:Int->Nat} {a b:Int} (h:∀ t,a<t->t<b->N (t - 1)=N t):∀ (d:Nat) (t:Int),t=a+d->t<b->N t=N a
 | 0,t,e,_=>by rw [e];simp
 | d+1,t,e,hb=>by
  rw [<-h t (by omega) hb]
  exact xqm h d (t - 1) (by omega) (by omega)
def xvH {N:Int->Nat} {H:Nat} (hH:∀ t,N t<=H):∀ (R:List Per) (a:Int) (F:List Int) (out:List Per) (A:Nat->List Per),LvI N H a F out A->-1<=a->a<1099511627776->(∀ s,s∈R->a<s.1/\s.1<1099511627776/\s.2=(N s.1:Int))->R.Pairwise (fun x y=>x.1<y.1) ->
  (∀ t,a<t->t<1099511627776->N (t - 1)≠N t->∃ s,s∈R/\s.1=t)->∃ (a':Int) (A':Nat->List Per),LvI N H a' (R.foldl (fun x s=>setF x (s.1,s.2.toNat)) (F,out)).1 (R.foldl (fun x s=>setF x (s.1,s.2.toNat)) (F,out)).2 A'/\-1<=a'/\a'<1099511627776/\∀ t,a'<t->t<1099511627776->N (t - 1)=N t
 | [],a,F,out,A,h,h1,h2,_,_,hm=>⟨a,A,h,h1,h2,fun t t1 t2=>by
  by_cases e:N (t - 1)=N t
  . exact e
  . obtain ⟨s,hs,_⟩:=hm t t1 t2 e;simp at hs⟩
 | s::R,a,F,out,A,h,h1,h2,hr,hp,hm=>by
  obtain ⟨s1,s2,s3⟩:=hr s (by simp)
  obtain ⟨p1,p2⟩:=zM.1 hp;obtain ⟨A',h'⟩:=h.set (b:=s.1) s1 (by omega) (by omega) (fun t t1 t2=>xqm (a:=a) (b:=s.1) (fun u u1 u2=>by
   by_cases e:N (u - 1)=N u
   . exact e
   . obtain ⟨q,hq,J⟩:=hm u u1 (by omega) e
     rcases zC.1 hq with rfl|hq
     . omega
     . have:=p1 q hq;omega) (t - a).toNat t (by omega) t2) (hH _)
  rw [List.foldl_cons];have e:setF (F,out) (s.1,s.2.toNat)=setF (F,out) (s.1,N s.1):=by rw [s3,zN]
  rw [e];obtain ⟨a',A2,g1,g2,g3,g4⟩:=xvH hH R s.1 _ _ A' h' (by omega) s2 (fun q hq=>⟨p1 q hq,(hr q (by simp [hq])).2⟩) p2 (fun t t1 t2 e=>by
   obtain ⟨q,hq,J⟩:=hm t (by omega) t2 e
   rcases zC.1 hq with rfl|hq
   . omega
   . exact ⟨q,hq,J⟩)
  exact ⟨a',A2,g1,g2,g3,g4⟩
def xCd {N:Int->Nat} {H:Nat} (hH:∀ t,N t<=H) (h0:∀ t,t<0\/1099511627776<=t->N t=0) {S:List Per} (hS:StepI (fun t=>(N t:Int)) 1099511627776 S) {P:List Per} (hP:P.Perm (setF (S.foldl (fun x s=>setF x (s.1,s.2.toNat)) ([],[])) (1099511627776,0)).2) (hs:Sorted cmpP P):IsLevs N P:=by
 obtain ⟨a,A,g1,g2,g3,g4⟩:=xvH hH S (-1) [] [] _ (LvI.start fun t ht=>h0 t (.inl ht)) (by omega) (by omega) (fun s hs=>by
  obtain ⟨m1,m2,m3,_⟩:=(hS.mem s).1 hs;exact ⟨by omega,m2,m3⟩) hS.asc (fun t t1 t2 e=>by
  refine ⟨(t,(N t:Int)),(hS.mem _).2 ⟨by dsimp only;omega,t2,rfl,?_⟩,rfl⟩
  refine .inr ?_;dsimp only;omega)
 have hz:N 1099511627776=0:=h0 _ (.inr (Int.le_refl _));obtain ⟨A',h'⟩:=g1.set (b:=1099511627776) g3 (by omega) (by omega) (fun t t1 t2=>xqm (fun u u1 u2=>g4 u u1 u2) (t - a).toNat t (by omega) t2) (hH _)
 rw [hz] at h';have hF:=h'.len;rw [hz] at hF;refine ⟨hs,A',H,hH,fun k=>⟨h'.span k,fun t=>?_⟩,hP.trans h'.perm⟩
 rw [Bool.eq_iff_iff,zl];by_cases ht:t<=1099511627776
 . rw [<-h'.cov k t ht];refine ⟨Or.inl,fun hh=>hh.elim id fun ⟨hk,_⟩=>?_⟩
   rw [hF] at hk;omega
 . rw [h0 t (.inr (by omega))]
   refine ⟨fun hi=>?_,fun hh=>by omega⟩
   have:=(xq1 hi).2;omega
def xny (l:List Per) (hl:l.length<=1048576):Iter (xcf (l.map encP) ((l.length:Nat):Int)) ((0:Nat),(0:Int),[])=some ((l.flatMap (fun (f:Per)=>[(f,(1:Int))])).length,(l.flatMap (fun (f:Per)=>[(f,(1:Int))])).map encC):=by
 refine xrR l (fun (f:Per)=>[(f,(1:Int))]) encC 1 (fun f hf=>?_) (fun n h D hD=>?_) (fun D=>?_)
 . simp
 . have h1:(n:Int)<(l.length:Int):=by omega
   have m1:(D.length+1)*24<=140737488355328:=by omega
   have m2:D.length+1<=4611686018427387904:=by omega
   have gf:(l.map encP).getD n .top=encP l[n]:=xaK _ _ _ h;simp only [xcf,xfa,sBU,h,h1,gf,cP0,cP1,lP,sP,sP0,sP1,m1,m2,xHc (n:=n) (by omega)]
   simp [encC]
 . simp only [xcf,xfa,za,zy,zm,xaH,sUF]
def xy8 (l:List Per) (hl:l.length<=1048576):xeG (l.map encP)=xaL ((l.map fun p=>(p,(1:Int))).map encC):=by
 have h:=xny l hl;rw [xHW] at h;unfold xeG xiY xif xeB;rw [za,h];simp only [sOO,xAc]
section
variable {α : Type} {enc : α -> AV} {okE : AV -> Bool} {ldE : AV -> AV}
def gR {l:List α} {i:Nat} {x:α} (h:l[i]?=some x):(List.map enc l).getD i .top=enc x:=by
 simp [List.getD,h]
def setR (l:List α) (i:Nat) (x:α):(List.map enc l).set i (enc x)=List.map enc (l.set i x):=by
 simp [List.map_set]
def xja {l:List α} {i:Nat} {x:α} (h:l[i]?=some x):i<l.length:=(List.getElem?_eq_some_iff.1 h).1
def xdJ {l:List α} {i:Nat} {x:α} (h:l[i]?=some x):x∈l:=List.mem_of_getElem? h
def xCe {l:List α} {i j:Nat} {x y:α} (hx:x∈l) (hy:y∈l) {z:α} (h:z∈(l.set i y).set j x):z∈l:=by
 grind
def w64 {x:Int} {n:Nat} (h:x=(n:Int)) (hn:n<=9223372036854775807):IntKind.i64.wrap x=(n:Int):=by
 rw [xba (by omega) (by omega)];exact h
def xHM {i j:Nat} (h:i+j<=9223372036854775807):IntKind.i64.wrap ((IntKind.u64.wrap (IntKind.i64.wrap ((i:Int)+(j:Int)))).fdiv 2)=(((i+j) / 2:Nat):Int):=by
 rw [xba (n:=(i:Int)+(j:Int)) (by omega) (by omega)]
 have hu:IntKind.u64.wrap ((i:Int)+(j:Int))=(i:Int)+(j:Int):=by
  unfold IntKind.wrap IntKind.bits IntKind.signed;simp;omega
 rw [hu,Int.fdiv_eq_ediv_of_nonneg _ (by omega)]
 exact w64 (by omega) (by omega)
structure LOk (N:Nat) (ok:α->Prop) (l:List α):Prop where
 len:l.length=N
 ok:∀ x,x∈l->ok x
def LOk.set2 {N:Nat} {ok:α->Prop} {l:List α} (h:LOk N ok l) {i j:Nat} {x y:α} (hx:x∈l) (hy:y∈l):LOk N ok ((l.set i y).set j x) :=
 ⟨by simp [h.len],fun z hz=>h.ok z (xCe hx hy hz)⟩
def LOk.perm {N:Nat} {ok:α->Prop} {l l':List α} (h:LOk N ok l) (hp:l'.Perm l):LOk N ok l' :=
 ⟨hp.length_eq.trans h.len,fun z hz=>h.ok z (hp.mem_iff.1 hz)⟩
def xgr {σ ρ σ' ρ':Type} {p:σ->Option (σ⊕ρ)} {g:σ'->Option (σ'⊕ρ')} (I:σ->Prop) (J:ρ->Prop) (e:σ->σ') (f:ρ->ρ')
  (h:∀ s,I s->(∀ s',p s=some (.inl s')->g (e s)=some (.inl (e s'))/\I s')/\(∀ r,p s=some (.inr r)->g (e s)=some (.inr (f r))/\J r)) {s:σ} {r:ρ} (hI:I s) (hr:Iter p s=some r):Iter g (e s)=some (f r)/\J r:=by
 obtain ⟨n,hn⟩:=xnG.1 hr;clear hr;induction n generalizing s with
 | zero=>simp [iterN] at hn
 | succ n ih =>
  unfold iterN at hn;obtain ⟨h1,h2⟩:=h s hI;split at hn
  . rename_i s' hs;obtain ⟨h3,h4⟩:=h1 s' hs;rw [xaT h3];exact ih h4 hn
  . rename_i r' hs;cases hn;obtain ⟨h3,h4⟩:=h2 _ hs;exact ⟨xaI h3,h4⟩
  . simp at hn
def xkh {σ ρ σ' ρ':Type} {p:Option (σ⊕ρ)} {g:Option (σ'⊕ρ')} {I:σ->Prop} {J:ρ->Prop} {e:σ->σ'} {f:ρ->ρ'} {s0:σ} (hp:p=some (.inl s0)) (hg:g=some (.inl (e s0))) (hI:I s0) :
  (∀ s',p=some (.inl s')->g=some (.inl (e s'))/\I s')/\(∀ r,p=some (.inr r)->g=some (.inr (f r))/\J r) :=
 ⟨fun s' h=>by rw [hp] at h;simp only [z6,Sum.inl.injEq] at h;subst h;exact ⟨hg,hI⟩,fun r h=>by rw [hp] at h;simp at h⟩
def xj8 {σ ρ σ' ρ':Type} {p:Option (σ⊕ρ)} {g:Option (σ'⊕ρ')} {I:σ->Prop} {J:ρ->Prop} {e:σ->σ'} {f:ρ->ρ'} {r0:ρ} (hp:p=some (.inr r0)) (hg:g=some (.inr (f r0))) (hJ:J r0) :
  (∀ s',p=some (.inl s')->g=some (.inl (e s'))/\I s')/\(∀ r,p=some (.inr r)->g=some (.inr (f r))/\J r) :=
 ⟨fun s' h=>by rw [hp] at h;simp at h,fun r h=>by rw [hp] at h;simp only [z6,Sum.inr.injEq] at h;subst h;exact ⟨hg,hJ⟩⟩
def xeo {σ ρ σ' ρ':Type} {p:Option (σ⊕ρ)} {g:Option (σ'⊕ρ')} {I:σ->Prop} {J:ρ->Prop} {e:σ->σ'} {f:ρ->ρ'} (hp:p=none) :
  (∀ s',p=some (.inl s')->g=some (.inl (e s'))/\I s')/\(∀ r,p=some (.inr r)->g=some (.inr (f r))/\J r) :=
 ⟨fun s' h=>by rw [hp] at h;simp at h,fun r h=>by rw [hp] at h;simp at h⟩
def xDV {N:Nat} (he:∀ a,okE (enc a)=true) (hd:∀ a,ldE (enc a)=enc a) (hN:N<=2 ^ 60) {ok:α->Prop} {c:α->α->Int} {P:AV->AV->Bool} {V:AV->AV->Int} (hc:∀ x y,ok x->ok y->P (enc x) (enc y)=true/\V (enc x) (enc y)=c x y)
  {g:Int×List AV->Option ((Int×List AV)⊕List AV)} (a:Nat)
  (hg:∀ (j:Int) (xs:List AV),g (j,xs)=br (decide (j>(a:Int))) (br (decide ((0:Int)<=j)&&decide (j<(N:Int))) (br (decide ((0:Nat)+j.toNat<xs.length)&&okE (xs.getD ((0:Nat)+j.toNat) AV.top))
   (br (decide ((0:Int)<=IntKind.i64.wrap (j - 1))&&decide (IntKind.i64.wrap (j - 1)<(N:Int))) (br (decide ((0:Nat)+(IntKind.i64.wrap (j - 1)).toNat<xs.length)&&okE (xs.getD ((0:Nat)+(IntKind.i64.wrap (j - 1)).toNat) AV.top))
   (br (P (xs.getD ((0:Nat)+j.toNat) AV.top) (xs.getD ((0:Nat)+(IntKind.i64.wrap (j - 1)).toNat) AV.top))
   (br (decide (V (xs.getD ((0:Nat)+j.toNat) AV.top) (xs.getD ((0:Nat)+(IntKind.i64.wrap (j - 1)).toNat) AV.top)<0))
   (br (decide ((0:Int)<=IntKind.i64.wrap (j - 1))&&decide (IntKind.i64.wrap (j - 1)<(N:Int))) (br (decide ((0:Nat)+(IntKind.i64.wrap (j - 1)).toNat<xs.length)&&okE (xs.getD ((0:Nat)+(IntKind.i64.wrap (j - 1)).toNat) AV.top))
   (br (decide ((0:Int)<=j)&&decide (j<(N:Int))) (br (decide ((0:Nat)+j.toNat<xs.length)&&okE (xs.getD ((0:Nat)+j.toNat) AV.top))
   (br (decide ((0:Int)<=j)&&decide (j<(N:Int))) (br (decide ((0:Nat)+j.toNat<xs.length)) (br (decide ((0:Int)<=IntKind.i64.wrap (j - 1))&&decide (IntKind.i64.wrap (j - 1)<(N:Int)))
   (br (decide ((0:Nat)+(IntKind.i64.wrap (j - 1)).toNat<(xs.set ((0:Nat)+j.toNat) (ldE (xs.getD ((0:Nat)+(IntKind.i64.wrap (j - 1)).toNat) AV.top))).length))
    (some (.inl (IntKind.i64.wrap (j - 1),(xs.set ((0:Nat)+j.toNat) (ldE (xs.getD ((0:Nat)+(IntKind.i64.wrap (j - 1)).toNat) AV.top))).set ((0:Nat)+(IntKind.i64.wrap (j - 1)).toNat) (ldE (xs.getD ((0:Nat)+j.toNat) AV.top)))))
    none) none) none) none) none) none) none) none) (some (.inr xs))) none) none) none) none) none) (some (.inr xs)))
  {j:Nat} {l r:List α} (hl:LOk N ok l) (hr:Iter (xHd c a) (j,l)=some r):Iter g ((j:Int),List.map enc l)=some (List.map enc r)/\LOk N ok r:=by
 refine xgr (I:=fun s=>LOk N ok s.2) (J:=LOk N ok) (e:=fun s=>((s.1:Int),List.map enc s.2)) (f:=List.map enc) ?_ (s:=(j,l)) hl hr
 rintro ⟨j,l⟩ (hl:LOk N ok l);have W:l.length=N:=hl.len;by_cases ha:a<j
 . cases hx:l[j]? with
   | none=>exact xeo (by simp [xHd,ha,hx])
   | some x =>
    cases hy:l[j - 1]? with
    | none=>exact xeo (by simp [xHd,ha,hx,hy])
    | some y =>
     have hj:=xja hx;have Q:=xja hy;have w1:IntKind.i64.wrap ((j:Int) - 1)=((j - 1:Nat):Int):=w64 (by omega) (by omega)
     obtain ⟨c1,c2⟩:=hc x y (hl.ok _ (xdJ hx)) (hl.ok _ (xdJ hy));have k1:(j:Int)<(N:Int):=by omega
     have k2:((j - 1:Nat):Int)<(N:Int):=by omega
     have k3:(j:Int)>(a:Int):=by omega
     have k4:j<(List.map enc l).length:=by simpa using hj
     have k5:j - 1<(List.map enc l).length:=by simpa using Q
     by_cases O:c x y<0
     . have hp:xHd c a (j,l)=some (.inl (j - 1,(l.set j y).set (j - 1) x)):=by simp [xHd,ha,hx,hy,O]
       have q:g ((j:Int),List.map enc l)=some (.inl (((j - 1:Nat):Int),List.map enc ((l.set j y).set (j - 1) x))):=by
        rw [hg];simp only [w1,zN,zH,gR hx,gR hy,he,hd,c1,c2,setR,O,k1,k2,k3,k4,k5,zn,zS,xaj,Int.natCast_nonneg,za,y4,hj,Q,sUF]
       exact xkh hp q (hl.set2 (xdJ hx) (xdJ hy))
     . have hp:xHd c a (j,l)=some (.inr l):=by simp [xHd,ha,hx,hy,O]
       have q:g ((j:Int),List.map enc l)=some (.inr (List.map enc l)):=by
        rw [hg];simp only [w1,zN,zH,gR hx,gR hy,he,hd,c1,c2,setR,O,k1,k2,k3,k4,k5,zn,zm,zS,xaj,xaH,Int.natCast_nonneg,sUF]
       exact xj8 hp q hl
 . have hp:xHd c a (j,l)=some (.inr l):=by simp [xHd,ha]
   have k3:¬ ((j:Int)>(a:Int)):=by omega
   have q:g ((j:Int),List.map enc l)=some (.inr (List.map enc l)):=by
    rw [hg];simp only [k3,zm,xaH,sUF]
   exact xj8 hp q hl
def xchK {T:Type} (okE:AV->Bool) (ldE:AV->AV) (N:Nat) (u v:Int) (xs:List AV) (δ:T) (κ:List AV->T):T :=
 br (decide ((0:Int)<=v)&&decide (v<(N:Int))) (br (decide ((0:Nat)+v.toNat<xs.length)&&okE (xs.getD ((0:Nat)+v.toNat) AV.top))
 (br (decide ((0:Int)<=u)&&decide (u<(N:Int))) (br (decide ((0:Nat)+u.toNat<xs.length)&&okE (xs.getD ((0:Nat)+u.toNat) AV.top))
 (br (decide ((0:Int)<=u)&&decide (u<(N:Int))) (br (decide ((0:Nat)+u.toNat<xs.length)) (br (decide ((0:Int)<=v)&&decide (v<(N:Int)))
 (br (decide ((0:Nat)+v.toNat<(xs.set ((0:Nat)+u.toNat) (ldE (xs.getD ((0:Nat)+v.toNat) AV.top))).length))
  (κ ((xs.set ((0:Nat)+u.toNat) (ldE (xs.getD ((0:Nat)+v.toNat) AV.top))).set ((0:Nat)+v.toNat) (ldE (xs.getD ((0:Nat)+u.toNat) AV.top))))
  δ) δ) δ) δ) δ) δ) δ) δ
def xwl {T:Type} {N:Nat} (he:∀ a,okE (enc a)=true) (hd:∀ a,ldE (enc a)=enc a)  {l:List α} (hl:l.length=N) {i j:Nat} {x y:α} (hx:l[i]?=some x) (hy:l[j]?=some y) {δ:T} {κ:List AV->T}:xchK okE ldE N (i:Int) (j:Int) (List.map enc l) δ κ=κ (List.map enc ((l.set i y).set j x)):=by
 have h1:=xja hx;have h2:=xja hy;have k1:(i:Int)<(N:Int):=by omega
 have k2:(j:Int)<(N:Int):=by omega
 have k4:i<(List.map enc l).length:=by simpa using h1
 have k5:j<(List.map enc l).length:=by simpa using h2
 unfold xchK;simp only [zN,zH,gR hx,gR hy,he,hd,setR,k1,k2,k4,k5,zn,zS,xaj,Int.natCast_nonneg,za,y4,h1,h2,sUF]
def xDX {N:Nat} (he:∀ a,okE (enc a)=true) (hd:∀ a,ldE (enc a)=enc a) (hN:N<=2 ^ 60) {ok:α->Prop} {g:Int×List AV->Option ((Int×List AV)⊕List AV)} (a b n:Nat) (ha:a<=2 ^ 60) (hb:b<=2 ^ 60) (hn:n<=2 ^ 60)
  (hg:∀ (i:Int) (xs:List AV),g (i,xs)=br (decide (i<(n:Int))) (xchK okE ldE N (IntKind.i64.wrap ((a:Int)+i)) (IntKind.i64.wrap ((b:Int)+i)) xs none fun ys=>some (.inl (IntKind.i64.wrap (i+1),ys))) (some (.inr xs)))
  {l r:List α} (hl:LOk N ok l) (hr:swr a b n l=some r):Iter g ((0:Int),List.map enc l)=some (List.map enc r)/\LOk N ok r:=by
 refine xgr (I:=fun s=>LOk N ok s.2) (J:=LOk N ok) (e:=fun s=>((s.1:Int),List.map enc s.2)) (f:=List.map enc) ?_ (s:=(0,l)) hl hr
 rintro ⟨i,l⟩ (hl:LOk N ok l);by_cases hi:i<n
 . cases hx:l[a+i]? with
   | none=>exact xeo (by simp [xHt,hi,hx])
   | some x =>
    cases hy:l[b+i]? with
    | none=>exact xeo (by simp [xHt,hi,hx,hy])
    | some y =>
     refine xkh (s0:=(i+1,(l.set (a+i) y).set (b+i) x)) (by simp [xHt,hi,hx,hy]) ?_ (hl.set2 (xdJ hx) (xdJ hy))
     rw [hg,show decide ((i:Int)<(n:Int))=true by simp [hi],xaj,w64 (n:=a+i) (by omega) (by omega),w64 (n:=b+i) (by omega) (by omega),xwl he hd hl.len hx hy,w64 (n:=i+1) (by omega) (by omega)]
 . refine xj8 (r0:=l) (by simp [xHt,hi]) ?_ hl
   rw [hg,show decide ((i:Int)<(n:Int))=false by simp;omega,xaH]
def xFM {N:Nat} (he:∀ a,okE (enc a)=true) (hd:∀ a,ldE (enc a)=enc a) (hN:N<=2 ^ 60) {ok:α->Prop} {g:Int×List AV->Option ((Int×List AV)⊕List AV)} (e i:Nat) (hi:i=e+1) (q:e<=2 ^ 60)
  (hg:∀ (k:Int) (xs:List AV),g (k,xs)=br (decide (k<IntKind.i64.wrap ((i:Int) - 1))) (xchK okE ldE N k (IntKind.i64.wrap (k+1)) xs none fun ys=>some (.inl (IntKind.i64.wrap (k+1),ys))) (some (.inr xs)))
  {k:Nat} {l r:List α} (hl:LOk N ok l) (hr:Iter (xHw e) (k,l)=some r):Iter g ((k:Int),List.map enc l)=some (List.map enc r)/\LOk N ok r:=by
 refine xgr (I:=fun s=>LOk N ok s.2) (J:=LOk N ok) (e:=fun s=>((s.1:Int),List.map enc s.2)) (f:=List.map enc) ?_ (s:=(k,l)) hl hr
 rintro ⟨k,l⟩ (hl:LOk N ok l);have we:IntKind.i64.wrap ((i:Int) - 1)=(e:Int):=w64 (by omega) (by omega)
 by_cases hk:k<e
 . cases hx:l[k]? with
   | none=>exact xeo (by simp [xHw,hk,hx])
   | some x =>
    cases hy:l[k+1]? with
    | none=>exact xeo (by simp [xHw,hk,hx,hy])
    | some y =>
     refine xkh (s0:=(k+1,(l.set k y).set (k+1) x)) (by simp [xHw,hk,hx,hy]) ?_ (hl.set2 (xdJ hx) (xdJ hy))
     rw [hg,we,show decide ((k:Int)<(e:Int))=true by simp [hk],xaj,w64 (n:=k+1) (by omega) (by omega),xwl he hd hl.len hx hy]
 . refine xj8 (r0:=l) (by simp [xHw,hk]) ?_ hl
   rw [hg,we,show decide ((k:Int)<(e:Int))=false by simp;omega,xaH]
def xCB {N:Nat} (he:∀ a,okE (enc a)=true) (hd:∀ a,ldE (enc a)=enc a) (hN:N<=2 ^ 60) {ok:α->Prop} {g:Int×List AV->Option ((Int×List AV)⊕List AV)} (e:Nat)
  (hg:∀ (k:Int) (xs:List AV),g (k,xs)=br (decide (k>(e:Int))) (xchK okE ldE N k (IntKind.i64.wrap (k - 1)) xs none fun ys=>some (.inl (IntKind.i64.wrap (k - 1),ys))) (some (.inr xs)))
  {k:Nat} {l r:List α} (hl:LOk N ok l) (hr:Iter (xHl e) (k,l)=some r):Iter g ((k:Int),List.map enc l)=some (List.map enc r)/\LOk N ok r:=by
 refine xgr (I:=fun s=>LOk N ok s.2) (J:=LOk N ok) (e:=fun s=>((s.1:Int),List.map enc s.2)) (f:=List.map enc) ?_ (s:=(k,l)) hl hr
 rintro ⟨k,l⟩ (hl:LOk N ok l);by_cases hk:e<k
 . cases hx:l[k]? with
   | none=>exact xeo (by simp [xHl,hk,hx])
   | some x =>
    cases hy:l[k - 1]? with
    | none=>exact xeo (by simp [xHl,hk,hx,hy])
    | some y =>
     have q:=hl.len;have:=xja hx;refine xkh (s0:=(k - 1,(l.set k y).set (k - 1) x)) (by simp [xHl,hk,hx,hy]) ?_ (hl.set2 (xdJ hx) (xdJ hy))
     rw [hg,show decide ((k:Int)>(e:Int))=true by simp [hk],xaj,w64 (x:=(k:Int) - 1) (n:=k - 1) (by omega) (by omega),xwl he hd hl.len hx hy]
 . refine xj8 (r0:=l) (by simp [xHl,hk]) ?_ hl
   rw [hg,show decide ((k:Int)>(e:Int))=false by simp;omega,xaH]
def cmpK {T:Type} (okE:AV->Bool) (N:Nat) (P:AV->AV->Bool) (u v:Int) (xs:List AV) (δ:T) (κ:AV->AV->T):T :=
 br (decide ((0:Int)<=u)&&decide (u<(N:Int))) (br (decide ((0:Nat)+u.toNat<xs.length)&&okE (xs.getD ((0:Nat)+u.toNat) AV.top))
 (br (decide ((0:Int)<=v)&&decide (v<(N:Int))) (br (decide ((0:Nat)+v.toNat<xs.length)&&okE (xs.getD ((0:Nat)+v.toNat) AV.top))
 (br (P (xs.getD ((0:Nat)+u.toNat) AV.top) (xs.getD ((0:Nat)+v.toNat) AV.top))
  (κ (xs.getD ((0:Nat)+u.toNat) AV.top) (xs.getD ((0:Nat)+v.toNat) AV.top)) δ) δ) δ) δ) δ
def xDn {T:Type} {N:Nat} (he:∀ a,okE (enc a)=true)  {P:AV->AV->Bool} {l:List α} (hl:l.length=N) {i j:Nat} {x y:α} (hx:l[i]?=some x) (hy:l[j]?=some y) (hP:P (enc x) (enc y)=true) {δ:T} {κ:AV->AV->T}:cmpK okE N P (i:Int) (j:Int) (List.map enc l) δ κ=κ (enc x) (enc y):=by
 have h1:=xja hx;have h2:=xja hy;have k1:(i:Int)<(N:Int):=by omega
 have k2:(j:Int)<(N:Int):=by omega
 have k4:i<(List.map enc l).length:=by simpa using h1
 have k5:j<(List.map enc l).length:=by simpa using h2
 unfold cmpK;simp only [zN,zH,gR hx,gR hy,he,hP,k1,k2,k4,k5,zn,zS,xaj,Int.natCast_nonneg,sUF]
def xHI (i j:Int):Int:=IntKind.i64.wrap ((IntKind.u64.wrap (IntKind.i64.wrap (i+j))).fdiv 2)
def xv4 {N:Nat} (he:∀ a,okE (enc a)=true) (hN:N<=2 ^ 60) {ok:α->Prop} {c:α->α->Int} {P:AV->AV->Bool} {V:AV->AV->Int} (hc:∀ x y,ok x->ok y->P (enc x) (enc y)=true/\V (enc x) (enc y)=c x y)
  {g:Int×Int×List AV->Option ((Int×Int×List AV)⊕(Int×List AV))} (u v:Nat->Nat) (U V':Int->Int) (lo hi:Nat) (W:hi<=2 ^ 61) (hu:∀ h,lo<=h->h<hi->U (h:Int)=(u h:Int)) (hv:∀ h,lo<=h->h<hi->V' (h:Int)=(v h:Int)) (t:Int->Bool)
  (hg:∀ (i j:Int) (xs:List AV),g (i,j,xs)=br (decide (i<j)) (cmpK okE N P (U (xHI i j)) (V' (xHI i j)) xs none fun X Y=>br (t (V X Y)) (some (.inl (IntKind.i64.wrap (xHI i j+1),j,xs))) (some (.inl (i,xHI i j,xs)))) (some (.inr (i,xs))))
  {l:List α} (hl:LOk N ok l) {i j r:Nat} (h1:lo<=i) (h2:j<=hi) (h3:i<=hi) (hr:Iter (xHf fun h=>(get2 c l (u h) (v h)).map t) (i,j)=some r):Iter g ((i:Int),(j:Int),List.map enc l)=some ((r:Int),List.map enc l)/\lo<=r/\r<=hi:=by
 refine xgr (I:=fun s=>lo<=s.1/\s.2<=hi/\s.1<=hi) (J:=fun r=>lo<=r/\r<=hi) (e:=fun (s:Nat×Nat)=>((s.1:Int),(s.2:Int),List.map enc l)) (f:=fun (r:Nat)=>((r:Int),List.map enc l)) ?_ (s:=(i,j)) ⟨h1,h2,h3⟩ hr
 rintro ⟨i,j⟩ ⟨h1,h2,h3⟩;dsimp only at h1 h2 h3;by_cases q:i<j
 . have hh:xHI (i:Int) (j:Int)=(((i+j) / 2:Nat):Int):=xHM (by omega)
   have b1:lo<=(i+j) / 2:=by omega
   have b2:(i+j) / 2<hi:=by omega
   have Q:decide ((i:Int)<(j:Int))=true:=by simp [q]
   cases hx:l[u ((i+j) / 2)]? with
   | none=>exact xeo (by simp [xHf,q,get2,hx])
   | some x =>
    cases hy:l[v ((i+j) / 2)]? with
    | none=>exact xeo (by simp [xHf,q,get2,hx,hy])
    | some y =>
     obtain ⟨c1,c2⟩:=hc x y (hl.ok _ (xdJ hx)) (hl.ok _ (xdJ hy));have O:=hg (i:Int) (j:Int) (List.map enc l);rw [Q,xaj,hh,hu _ b1 b2,hv _ b1 b2,xDn he hl.len hx hy c1,c2] at O;cases ht:t (c x y) with
     | true =>
      rw [ht,xaj,w64 (n:=(i+j) / 2+1) (by omega) (by omega)] at O
      exact xkh (s0:=((i+j) / 2+1,j)) (by simp [xHf,q,get2,hx,hy,ht]) O ⟨by dsimp only;omega,h2,by dsimp only;omega⟩
     | false =>
      rw [ht,xaH] at O;exact xkh (s0:=(i,(i+j) / 2)) (by simp [xHf,q,get2,hx,hy,ht]) O ⟨h1,by dsimp only;omega,h3⟩
 . have Q:decide ((i:Int)<(j:Int))=false:=by simp;omega
   refine xj8 (r0:=i) (by simp [xHf,q]) ?_ ⟨h1,h3⟩
   rw [hg,Q,xaH]
def xDW {N:Nat} (hN:N<=2 ^ 60) {ok:α->Prop} {SW:Int->Int->Int->List AV->Option (List AV)} (q:∀ (a b n:Nat) (l r:List α),a<=2 ^ 60->b<=2 ^ 60->n<=2 ^ 60->LOk N ok l->swr a b n l=some r->SW a b n (List.map enc l)=some (List.map enc r)/\LOk N ok r)
  {g:Int×Int×List AV->Option ((Int×Int×List AV)⊕(Int×List AV))} (m:Nat) (hm:m<=N)
  (hg:∀ (i j:Int) (xs:List AV),g (i,j,xs)=br (i != j) (br (decide (i>j)) (br (SW (IntKind.i64.wrap ((m:Int) - i)) m j xs).isSome (some (.inl (IntKind.i64.wrap (i - j),j,(SW (IntKind.i64.wrap ((m:Int) - i)) m j xs).getD []))) none)
   (br (SW (IntKind.i64.wrap ((m:Int) - i)) (IntKind.i64.wrap (IntKind.i64.wrap ((m:Int)+j) - i)) i xs).isSome (some (.inl (i,IntKind.i64.wrap (j - i),(SW (IntKind.i64.wrap ((m:Int) - i)) (IntKind.i64.wrap (IntKind.i64.wrap ((m:Int)+j) - i)) i xs).getD []))) none)) (some (.inr (i,xs))))
  {i j:Nat} {l l':List α} {i':Nat} (hi:i<=m) (hj:m+j<=N) (hl:LOk N ok l) (hr:Iter (xHg m) (i,j,l)=some (i',l')):Iter g ((i:Int),(j:Int),List.map enc l)=some ((i':Int),List.map enc l')/\i'<=m/\LOk N ok l':=by
 refine xgr (I:=fun s=>s.1<=m/\m+s.2.1<=N/\LOk N ok s.2.2) (J:=fun r=>r.1<=m/\LOk N ok r.2) (e:=fun (s:Nat×Nat×List α)=>((s.1:Int),(s.2.1:Int),List.map enc s.2.2)) (f:=fun (r:Nat×List α)=>((r.1:Int),List.map enc r.2)) ?_ (s:=(i,j,l)) ⟨hi,hj,hl⟩ hr
 rintro ⟨i,j,l⟩ ⟨hi,hj,hl⟩;dsimp only at hi hj hl;by_cases h1:i=j
 . subst h1;refine xj8 (r0:=(i,l)) (by simp [xHg]) ?_ ⟨hi,hl⟩
   rw [hg];simp [xaH,sUF]
 . have d1:((i:Int) != (j:Int))=true:=by simp;omega
   have w1:IntKind.i64.wrap ((m:Int) - (i:Int))=((m - i:Nat):Int):=w64 (by omega) (by omega)
   by_cases h2:j<i
   . cases hs:swr (m - i) m j l with
     | none=>exact xeo (by simp [xHg,h1,h2,hs])
     | some l1 =>
      obtain ⟨e1,e2⟩:=q (m - i) m j l l1 (by omega) (by omega) (by omega) hl hs
      refine xkh (s0:=(i - j,j,l1)) (by simp [xHg,h1,h2,hs]) ?_ ⟨by dsimp only;omega,hj,e2⟩
      rw [hg,d1,xaj,show decide ((i:Int)>(j:Int))=true by simp [h2],xaj,w1,e1,w64 (x:=(i:Int) - (j:Int)) (n:=i - j) (by omega) (by omega)]
      rfl
   . cases hs:swr (m - i) (m+j - i) i l with
     | none=>exact xeo (by simp [xHg,h1,h2,hs])
     | some l1 =>
      obtain ⟨e1,e2⟩:=q (m - i) (m+j - i) i l l1 (by omega) (by omega) (by omega) hl hs
      refine xkh (s0:=(i,j - i,l1)) (by simp [xHg,h1,h2,hs]) ?_ ⟨hi,by dsimp only;omega,e2⟩
      rw [hg,d1,xaj,show decide ((i:Int)>(j:Int))=false by simp;omega,xaH,w1,w64 (x:=(m:Int)+(j:Int)) (n:=m+j) (by omega) (by omega),w64 (x:=((m+j:Nat):Int) - (i:Int)) (n:=m+j - i) (by omega) (by omega),e1,w64 (x:=(j:Int) - (i:Int)) (n:=j - i) (by omega) (by omega)]
      rfl
def xCC {N:Nat} (hN:N<=2 ^ 60) {ok:α->Prop} {c:α->α->Int} (a b:Nat) (hb:b<=N) {gi:Int->Int×List AV->Option ((Int×List AV)⊕List AV)}
  (hi:∀ (i:Nat) (l r:List α),LOk N ok l->Iter (xHd c a) (i,l)=some r->Iter (gi i) ((i:Int),List.map enc l)=some (List.map enc r)/\LOk N ok r)
  {g:Int×List AV->Option ((Int×List AV)⊕List AV)}
  (hg:∀ (i:Int) (xs:List AV),g (i,xs)=br (decide (i<(b:Int))) (br (Iter (gi i) (i,xs)).isSome (some (.inl (IntKind.i64.wrap (i+1),(Iter (gi i) (i,xs)).getD []))) none) (some (.inr xs)))
  {i:Nat} {l r:List α} (hl:LOk N ok l) (hr:Iter (xHq c a b) (i,l)=some r):Iter g ((i:Int),List.map enc l)=some (List.map enc r)/\LOk N ok r:=by
 refine xgr (I:=fun s=>LOk N ok s.2) (J:=LOk N ok) (e:=fun s=>((s.1:Int),List.map enc s.2)) (f:=List.map enc) ?_ (s:=(i,l)) hl hr
 rintro ⟨i,l⟩ (hl:LOk N ok l);by_cases h:i<b
 . cases hs:Iter (xHd c a) (i,l) with
   | none=>exact xeo (by simp [xHq,h,hs])
   | some l1 =>
    obtain ⟨e1,e2⟩:=hi i l l1 hl hs;refine xkh (s0:=(i+1,l1)) (by simp [xHq,h,hs]) ?_ e2
    rw [hg,show decide ((i:Int)<(b:Int))=true by simp [h],xaj,e1,w64 (x:=(i:Int)+1) (n:=i+1) (by omega) (by omega)]
    rfl
 . refine xj8 (r0:=l) (by simp [xHq,h]) ?_ hl
   rw [hg,show decide ((i:Int)<(b:Int))=false by simp;omega,xaH]
def xv5 {N:Nat} (hN:N<=2 ^ 60) {ok:α->Prop} (w:Nat) (hw:w<=2 ^ 61) {p:Nat×Nat×List α->Option ((Nat×Nat×List α)⊕(Nat×List α))} {F:Nat->Nat->List α->Option (List α)} (Q:∀ a b l l',b<=N->F a b l=some l'->p (a,b,l)=some (.inl (b,b+w,l'))) (O:∀ a b l,b<=N->F a b l=none->p (a,b,l)=none) (q:∀ a b l,¬ b<=N->p (a,b,l)=some (.inr (a,l)))
  {G:Int->Int->List AV->Option (List AV)} (hF:∀ (a b:Nat) (l r:List α),a<=b->b=a+w->b<=N->LOk N ok l->F a b l=some r->G a b (List.map enc l)=some (List.map enc r)/\LOk N ok r)
  {g:Int×Int×List AV->Option ((Int×Int×List AV)⊕(Int×List AV))}
  (hg:∀ (a b:Int) (xs:List AV),g (a,b,xs)=br (decide (b<=(N:Int))) (br (G a b xs).isSome (some (.inl (b,IntKind.i64.wrap (b+(w:Int)),(G a b xs).getD []))) none) (some (.inr (a,xs))))
  {l l':List α} {a a':Nat} (hl:LOk N ok l) (hr:Iter p (a,a+w,l)=some (a',l')) (ha:a<=N):Iter g ((a:Int),((a+w:Nat):Int),List.map enc l)=some ((a':Int),List.map enc l')/\a'<=N/\N<a'+w/\LOk N ok l':=by
 refine xgr (I:=fun s=>s.1<=N/\s.2.1=s.1+w/\LOk N ok s.2.2) (J:=fun r=>r.1<=N/\N<r.1+w/\LOk N ok r.2) (e:=fun (s:Nat×Nat×List α)=>((s.1:Int),(s.2.1:Int),List.map enc s.2.2)) (f:=fun (r:Nat×List α)=>((r.1:Int),List.map enc r.2)) ?_ (s:=(a,a+w,l)) ⟨ha,rfl,hl⟩ hr
 rintro ⟨a,b,l⟩ ⟨h1,h2,hl⟩;dsimp only at h1 h2 hl;by_cases h:b<=N
 . cases hs:F a b l with
   | none=>exact xeo (O _ _ _ h hs)
   | some l1 =>
    obtain ⟨e1,e2⟩:=hF a b l l1 (by omega) h2 h hl hs
    refine xkh (s0:=(b,b+w,l1)) (Q _ _ _ _ h hs) ?_ ⟨h,rfl,e2⟩;rw [hg,show decide ((b:Int)<=(N:Int))=true by simp [h],xaj,e1,w64 (x:=(b:Int)+(w:Int)) (n:=b+w) (by omega) (by omega)]
    rfl
 . refine xj8 (r0:=(a,l)) (q _ _ _ h) ?_ ⟨h1,by dsimp only;omega,hl⟩
   rw [hg,show decide ((b:Int)<=(N:Int))=false by simp;omega,xaH]
end
def xHJ (l:List Row):Prop:=l.length<=1048576/\∀ x,x∈l->x.length<=1048576
def xHJ.perm {l l':List Row} (h:xHJ l) (hp:l'.Perm l):xHJ l':=⟨by rw [hp.length_eq];exact h.1,fun x hx=>h.2 x (hp.mem_iff.1 hx)⟩
def xDN {n f:Nat} (h:n<=1048576) (hf:20<=f):n<=2 ^ f:=Nat.le_trans h (Nat.pow_le_pow_right (n:=2) (by omega) hf:2 ^ 20<=2 ^ f)
deriving instance DecidableEq for Fc
def xyj {α:Type} [DecidableEq α] {step:Int->Option (Int⊕(Bool×Bool×Unit))} (a b:List α) (hl:a.length=b.length)
  (hs:∀ (n:Nat) (h1:n<a.length) (h2:n<b.length),step (n:Int)=if a[n]=b[n] then some (.inl ((n+1:Nat):Int)) else some (.inr (true,false,())))
  (he:step (a.length:Int)=some (.inr (false,false,()))):Iter step (0:Int)=some (if a=b then (false,false,()) else (true,false,())):=by
 have key:∀ d n:Nat,n+d=a.length->Iter step (n:Int)=some (if a.drop n=b.drop n then (false,false,()) else (true,false,())):=by
  intro d;induction d with
  | zero =>
   intro n h;have:n=a.length:=by omega
   subst this;rw [zq (zd _),zq (by omega)]
   exact xaI he
  | succ d ih =>
   intro n h;have h1:n<a.length:=by omega
   have h2:n<b.length:=by omega
   have:=hs n h1 h2;have e:a.drop n=b.drop n↔a[n]=b[n]/\a.drop (n+1)=b.drop (n+1):=by rw [xdS h1,xdS h2,List.cons.injEq]
   by_cases hc:a[n]=b[n]
   . rw [if_pos hc] at this;rw [xaT this,ih (n+1) (by omega)]
     simp_all
   . rw [if_neg hc] at this;rw [xaI this,if_neg fun h=>hc (e.1 h).1]
 have:=key a.length 0 (by omega)
 simpa using this
def cV0 (v:Val):((encV v).cells.getD 0 .top).toInt=v.k:=rfl
def cV1 (v:Val):((encV v).cells.getD 1 .top).toInt=v.i:=rfl
def cV2 (v:Val):((encV v).cells.getD 2 .top).toStr=v.t:=rfl
def lV (v:Val):((encV v).cells.length==3)=true:=rfl
def sV (v:Val):xIb [Sh.int .i64,Sh.int .i64,Sh.str] (encV v).cells 0=true:=rfl
def xFh (x y:Per):(x.1==y.1&&x.2==y.2)=decide (x=y):=by
 grind
def cmp0 (x y:Row):(cmpR x y==0)=decide (x=y):=by
 by_cases h:x=y
 . subst h;simp [xAj]
 . have:cmpR x y≠0:=fun e=>h (xkF e)
   simp [h,this]
def cmp1 (x y:Row):(cmpR x y != 0)=!decide (x=y):=by rw [<-cmp0];rfl
def xFj (x y:Fc):x=y↔x.r=y.r/\x.p=y.p:=by cases x;cases y;simp
def xod (a b:List Fc) (hl:a.length=b.length) (ha:a.length<=1048576) (hr:∀ f,f∈a->f.r.length<=maxLen):Iter (xbX (a.map encF) (b.map encF)) (0:Int)=some (if a=b then (false,false,()) else (true,false,())):=by
 refine xyj a b hl (fun n h h2=>?_) ?_
 . have h1:(n:Int)<(a.length:Int):=by omega
   have h3:(n:Int)<(b.length:Int):=by omega
   have gf:(a.map encF).getD n .top=encF a[n]:=xaK _ _ _ h;have gg:(b.map encF).getD n .top=encF b[n]:=xaK _ _ _ h2;have hm:=hr a[n] (zo h);simp only [xbX,xfE,sBU,h,h1,h2,h3,gf,gg,cF0,cF1,cF2,sF0,sF1,sF2,lF,sF12,sF02,xFh,xDO _ _ hm,cmp1,xHc (n:=n) (by omega)]
   by_cases hp:a[n].p=b[n].p<;>by_cases hq:a[n].r=b[n].r<;>simp [hp,hq,xFj,xaj,xaH,sUF]
 . simp only [xbX,xfE,za,zy,zm,xaH,sUF]
def xuv (a b:List Fc) (ha:a.length<=1048576) (hr:∀ f,f∈a->f.r.length<=maxLen):xb1 (a.map encF) (b.map encF)=some (decide (a=b)):=by
 unfold xb1 xjW;by_cases hl:a.length=b.length
 . simp only [za,hl,bne_self_eq_false,xaH,sUF];rw [xod a b hl ha hr];by_cases h:a=b<;>simp [h,xaj,xaH,sUF]
 . have h:a≠b:=fun e=>hl (by rw [e])
   have h2:((a.length:Int) != (b.length:Int))=true:=by simp;omega
   simp [h,h2,xaj,sUF]
def atL (l:List Fc) (t:Int):List Row:=l.flatMap fun f=>if hasP f.p t=true then [f.r] else []
def xC5 (l:List Fc) (t:Int):(atL l t).length<=l.length:=by
 have:=xnC (g:=fun f:Fc=>if hasP f.p t=true then [f.r] else []) (c:=1) l fun f _=>by split<;>simp
 unfold atL;omega
def xC6 {l:List Fc} {t:Int} {r:Row} (h:r∈atL l t):∃ f,f∈l/\f.r=r/\hasP f.p t=true:=by
 obtain ⟨f,hf,h⟩:=y5.1 h;split at h
 . grind
 . simp at h
def Few (l:List Fc):Prop:=l.length<=1048576/\∀ f,f∈l->f.r.length<=1048576
def Few.at {l:List Fc} (h:Few l) (t:Int):xHJ (atL l t):=⟨Nat.le_trans (xC5 l t) h.1,fun x hx=>by obtain ⟨f,hf,rfl,_⟩:=xC6 hx;exact h.2 f hf⟩
end Go.Sim.M
end
