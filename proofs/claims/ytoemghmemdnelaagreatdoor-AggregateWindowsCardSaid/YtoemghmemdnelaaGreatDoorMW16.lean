/- Part 16 of the proof of the law. -/
import Derived.Test.YtoemghmemdnelaaGreatDoorMW15
import Derived.Test.YtoemghmemdnelaaGreatDoorCards
import Derived.Test.YtoemghmemdnelaaGreatDoorTie
import Derived.ChangeMaps5
import Derived.Deep.DeepHandedRow
import Derived.Stop.LaidErr
import Derived.Deep.DeepLaidRun
set_option linter.unusedVariables false
set_option linter.unusedSimpArgs false
set_option linter.unusedSectionVars false
noncomputable section
set_option maxRecDepth 10000
namespace Go.Sim
open Go.RowKit Go.Proofs Go.ChangeShapes Go.WideShapes Go.ChangeAt
theorem xG5 {P:Program} {w:World} (h:w.ShapedOpen P) (hg:P.globals.size<P.low):P.low<=w.heap.size:=by
 obtain ⟨o,o₀,h1,_,_⟩:=h.2 (P.low - 1) (by omega) (by unfold Program.low at hg |-;omega)
 rcases zJ (P.low - 1) w.heap.size with h'|h'
 . omega
 . rw [Array.getElem?_eq_none h'] at h1;simp at h1
def xS8:DataW Unit->List Value
 | .lit (.int k n)=>[.int k n]
 | .agg l=>l.flatMap fun d=>match d with
  | .lit (.int k n)=>[.int k n]
  | .agg l'=>l'.flatMap fun d'=>match d' with
   | .lit (.int k n)=>[.int k n]
   | _=>[]
  | _=>[]
 | _=>[]
def xS7 (P:Program):List (String×DataW Unit)->Array Obj->Array Obj
 | [],h=>h
 | x::r,h=>xS7 P r (match P.globalNamed x.1 with
  | some g=>h.modify g fun o=>match o with
   | .cells _ t frozen=>.cells (xS8 x.2).toArray t frozen
   | o=>o
  | none=>h)
def xSV (P:Program) (q:List (String×DataW Unit)) (os:Os):World :=
 { World.holding P os ⟨#[],#[],[]⟩ with heap:=xS7 P q (World.holding P os ⟨#[],#[],[]⟩).heap }
theorem xM3 {H:Type} {enc:TypeId×Value->H} {P:Program} {f:Func} {s:ChangeSpec} {W W':World} {J:Array Value} {ds:List (DataW H)} {q:List MemPlace} {tb:TypeId} (hs:s.vars=[])
  (hW:DataW.Whole enc P f.params.toList s.vars false W J.toList ds [] q) (O:(s.fn H ds).results=[.lit (.bool true)]/\(s.fn H ds).args=ds/\(s.fn H ds).vars=[]) (U:f.resultTypes=#[tb]) (V:P.underlying tb=some .bool)
  (Q:DataW.TrodAll enc P W' 0 (fun b=>decide (b<W.heap.size)) true f.params.toList J.toList ds q) (hb:Below W.heap.size W W'):s.post enc P f false true false false W J (.bool true) W':=by
 refine ⟨ds,[],q,[],q,[],hW,?_,?_,?_,hb.frame _,fun h=>by simp at h⟩
 . simp only [zD,O.1,U];exact trodAll_cons_mk (shut_bool V _) trodAll_mk0
 . simpa [O.2.1] using Q
 . simp only [zD,O.2.2,hs];rfl
theorem xCd {H:Type} {enc:TypeId×Value->H} {P:Program} {W W':World} (hl:laidOutB P=true) (hb:Below W.heap.size W W'):∀ {ts:List TypeId} {vs:List Value} {ds:List (DataW H)} {ps:List MemPlace},(ts.all fun t=>P.readableRec t&&decide (t<P.types.size))=true ->
  DataW.TrodAll enc P W 0 (fun _=>true) true ts vs ds ps->DataW.TrodAll enc P W' 0 (fun b=>decide (b<W.heap.size)) true ts vs ds ps
 | [],vs,ds,ps,_,h=>by
  obtain ⟨rfl,rfl,rfl⟩:=trodAll_nil h;exact trodAll_mk0
 | t::ts,vs,ds,ps,ht,h=>by
  have J:=h.lt;obtain ⟨v,Q,d,O,p,q,rfl,rfl,rfl,hd,hr⟩:=trodAll_cons h;simp only [List.all_cons,zf,zl] at ht;exact trodAll_cons_mk (Below.trod hl ht.1.1 ht.1.2 hd hb fun x hx=>J x (by simp [hx])) (xCd hl hb ht.2 hr)
section
variable {H : Type} {enc : TypeId × Value -> H} {P : Program} {w : World} {base b n : Nat} {sp : Nat -> Bool} {held : Bool} {v : Value} {d : DataW H} {ps : List MemPlace} {t : TypeId}
theorem xMZ {T:Ty} (hf:flat P n t=some [T]) (hv:v.cells=#[v]) (hd:DataW.Trod enc P w b sp held t v d ps):∃ a,Rel w (fun _=>False) xTC v a/\OfTy T a/\∀ μ:DataW H->Nat,Meas μ->a.wt<=μ d:=by
 obtain ⟨fuel,q⟩:=hd;rw [hv] at q;obtain ⟨ra,ha,hw⟩:=xAz n t [T] hf fuel _ _ q;cases ha with
 | cons h ht r=>cases r with
  | nil=>exact ⟨_,h,ht,fun μ hμ=>by simpa [AV.wts] using hw μ hμ⟩
theorem xPW {e:TypeId} {es:List Ty} (ht:P.underlying t=some (.slice e)) (hf:flat P n t=some [.slice es]) (q:Value.okWide P w .any base t v) (hd:DataW.Trod enc P w b sp held t v d ps):∃ a,Rel w (fun _=>False) xTC v a/\OfTy (.slice es) a/\∀ μ:DataW H->Nat,Meas μ->a.wt<=μ d:=by
 obtain ⟨x,len,cap,rfl⟩:=okWide_slice ht q;exact xMZ hf rfl hd
theorem xAH {α:Type} {e:α->AV} {wf:α->Prop} {es:List Ty} (hv:∀ x:AV,x.cells.length=es.length->x=xTY x.cells->(∀ j,j<es.length->OfTy (es.getD j .bool) (x.cells.getD j .top))->∃ a,x=e a/\wf a) {x:AV} (h:OfTy (.slice es) x) :
  ∃ l:List α,x=.list es.length (l.map e)/\l.length<=maxLen/\∀ a,a∈l->wf a:=by
 cases h with
 | slice _ xs hn hl hx =>
  have:∀ xs:List AV,(∀ x,x∈xs->∃ a,x=e a/\wf a)->∃ l:List α,xs=l.map e/\∀ a,a∈l->wf a:=by
   intro xs;induction xs with
   | nil=>exact fun _=>⟨[],rfl,fun a h=>by simp at h⟩
   | cons x xs ih =>
    intro h;obtain ⟨a,rfl,ha⟩:=h x (by simp)
    obtain ⟨l,rfl,hl⟩:=ih fun y hy=>h y (by simp [hy])
    exact ⟨a::l,rfl,fun b hb=>(zC.1 hb).elim (fun he=>he▸ha) (fun hb=>hl b hb)⟩
  obtain ⟨l,rfl,hw⟩:=this xs fun x q=>hv x (hl x q).1 (hl x q).2 (fun j hj=>hx x j q hj)
  exact ⟨l,rfl,by simpa using hn,hw⟩
end
end Go.Sim
namespace Go.Sim
open Go.RowKit Go.Proofs Go.ChangeShapes Go.WideShapes Go.ChangeAt Go.Proofs.YtoemghmemdnelaaGreatDoor
theorem xTe:laidOutB Tryz.prog=true:=by kernel_rfl
theorem xTh:ownKnob Tryz.prog.godebug=none:=by kernel_rfl
theorem xTg:Tryz.prog.globals.size<Tryz.prog.low:=of_decide_eq_true (by kernel_rfl)
noncomputable def xSx:Nat:=(Tryz.prog.globalNamed "internal/strconv.uint64pow10").getD 0
theorem xM4:Rows.laid_internal_strconv_uint64pow10=(Lib.tabData .u64 Lib.pow10Tab:DataW Unit):=by kernel_rfl
theorem xRe {W:World} {r:List (String×DataW Unit)} {a b:String×DataW Unit} (hl:r=[a,b,("internal/strconv.uint64pow10",Rows.laid_internal_strconv_uint64pow10)]) (hp:(r.all fun x=>x.2.handleName?.isNone)=true) (hL:laidMetH Tryz.prog r W) (q:W.ShapedOpen Tryz.prog):xT5 W:=by
 rw [MakeChecks.laidMetH_plain _ _ _ hp] at hL;subst hl;refine ⟨q,xG5 q xTg,?_⟩;have h:=hL.tail.tail;rw [xM4] at h;exact Lib.tabIs_of_head (g:=xSx) (t:=(Tryz.prog.globals[xSx]?).map (·.type) |>.getD 0) (e:=194) (n:=20) (by kernel_rfl) (by kernel_rfl) (by kernel_rfl) (by kernel_rfl) (by kernel_rfl) (by kernel_rfl) h
def tyV:List Ty:=[.int .i64,.int .i64,.str]
def tyF:List Ty:=[.slice tyV,.int .i64,.int .i64]
def I64 (n:Int):Prop:=(Lit.int .i64 n).wf=true
def M.Fc.wf (x:M.Fc):Prop:=M.Row.wf x.r/\I64 x.p.1/\I64 x.p.2
theorem xOQ (x:AV) (hl:x.cells.length=tyV.length) (he:x=xTY x.cells) (hx:∀ j,j<tyV.length->OfTy (tyV.getD j .bool) (x.cells.getD j .top)):∃ a,x=M.encV a/\M.Val.wf a:=by
 generalize x.cells=cs at *;match cs,hl with
 | [c0,c1,c2],_ =>
  have h0:=hx 0 (by decide)
  have h1:=hx 1 (by decide)
  have h2:=hx 2 (by decide)
  change OfTy (.int .i64) c0 at h0;change OfTy (.int .i64) c1 at h1;change OfTy .str c2 at h2;cases h0 with
  | int _ k hk=>cases h1 with
   | int _ i hi=>cases h2 with
    | str t ht=>exact ⟨⟨k,i,t⟩,he,hk,hi,ht⟩
theorem xOP {x:AV} (h:OfTy (.slice tyV) x):∃ l:M.Row,x=M.encR l/\M.Row.wf l:=by
 obtain ⟨l,rfl,h1,h2⟩:=xAH xOQ h;exact ⟨l,rfl,h1,h2⟩
theorem xOM (x:AV) (hl:x.cells.length=tyF.length) (he:x=xTY x.cells) (hx:∀ j,j<tyF.length->OfTy (tyF.getD j .bool) (x.cells.getD j .top)):∃ a,x=M.encF a/\M.Fc.wf a:=by
 generalize x.cells=cs at *;match cs,hl with
 | [c0,c1,c2],_ =>
  have h0:=hx 0 (by decide)
  have h1:=hx 1 (by decide)
  have h2:=hx 2 (by decide)
  change OfTy (.slice tyV) c0 at h0;change OfTy (.int .i64) c1 at h1;change OfTy (.int .i64) c2 at h2;obtain ⟨l,rfl,hw⟩:=xOP h0;cases h1 with
  | int _ k hk=>cases h2 with
   | int _ i hi=>exact ⟨⟨l,(k,i)⟩,he,hw,hk,hi⟩
def tyP:List Ty:=[.int .i64,.int .i64]
def M.PerWf (p:M.Per):Prop:=(Lit.int .i64 p.1).wf=true/\(Lit.int .i64 p.2).wf=true
theorem xOO (x:AV) (hl:x.cells.length=tyP.length) (he:x=xTY x.cells) (hx:∀ j,j<tyP.length->OfTy (tyP.getD j .bool) (x.cells.getD j .top)):∃ a,x=M.encP a/\M.PerWf a:=by
 generalize x.cells=cs at *;match cs,hl with
 | [c0,c1],_ =>
  have h0:=hx 0 (by decide)
  have h1:=hx 1 (by decide)
  change OfTy (.int .i64) c0 at h0;change OfTy (.int .i64) c1 at h1;cases h0 with
  | int _ k hk=>cases h1 with
   | int _ i hi=>exact ⟨(k,i),he,hk,hi⟩
section
variable {H : Type} {enc : TypeId × Value -> H} {w : World} {base b : Nat} {sp : Nat -> Bool} {held : Bool} {v : Value} {d : DataW H} {ps : List MemPlace}
theorem xGC {P:Program} {t:TypeId} {n:Nat} {Ts:List Ty} {fs:Array Field} (ht:P.underlying t=some (.struct fs)) (hf:flat P n t=some Ts) (q:Value.okWide P w .any base t v) (hd:DataW.Trod enc P w b sp held t v d ps) :
  ∃ cs:List AV,Rel w (fun _=>False) xTC v (.agg cs)/\cs.length=Ts.length/\(∀ j,j<Ts.length->OfTy (Ts.getD j .bool) (cs.getD j .top))/\∀ μ:DataW H->Nat,Meas μ->AV.wts cs<=μ d:=by
 obtain ⟨vs,rfl,_⟩:=okWide_struct ht q;obtain ⟨fuel,J⟩:=hd;obtain ⟨xs,ha,hw⟩:=xAz n t Ts hf fuel _ _ J;obtain ⟨l1,l2⟩:=ha.len;have l1':vs.size=Ts.length:=by simpa [Value.cells] using l1
 refine ⟨xs,.agg vs xs (by omega) fun i hi=>?_,l2,fun j hj=>(ha.get j hj).2,fun μ hμ=>hw μ hμ⟩
 have:=(ha.get i (by omega)).1
 simpa [Value.cells,z7,zu] using this
end
end Go.Sim
end
noncomputable section
set_option maxRecDepth 10000
namespace Go.Sim
open Go.RowKit Go.Proofs Go.ChangeShapes Go.WideShapes Go.ChangeAt Go.Proofs.YtoemghmemdnelaaGreatDoor
theorem xMs:flat Tryz.prog 9 26=some [.slice tyP]:=by kernel_rfl
theorem xNY:flat Tryz.prog 9 25=some [.slice [.int .i64],.slice tyF]:=by kernel_rfl
theorem xMt:flat Tryz.prog 9 54=some [.int .i64,.int .i64]:=by kernel_rfl
theorem xON (x:AV) (hl:x.cells.length=[Ty.int .i64].length) (he:x=xTY x.cells) (hx:∀ j,j<[Ty.int .i64].length->OfTy ([Ty.int .i64].getD j .bool) (x.cells.getD j .top)):∃ a,x=M.encN a/\I64 a:=by
 generalize x.cells=cs at *;match cs,hl with
 | [c0],_ =>
  have h0:=hx 0 (by decide)
  change OfTy (.int .i64) c0 at h0;cases h0 with
  | int _ k hk=>exact ⟨k,he,hk⟩
section
variable {H : Type} {enc : TypeId × Value -> H} {w : World} {base b : Nat} {sp : Nat -> Bool} {held : Bool} {v : Value} {d : DataW H} {ps : List MemPlace}
theorem xMY (q:Value.okWide Tryz.prog w .any base 26 v) (hd:DataW.Trod enc Tryz.prog w b sp held 26 v d ps):∃ l:List M.Per,Rel w (fun _=>False) xTC v (.list 2 (l.map M.encP))/\(∀ μ:DataW H->Nat,Meas μ->(AV.list 2 (l.map M.encP)).wt<=μ d)/\(l.length<=maxLen/\∀ y,y∈l->M.PerWf y):=by
 obtain ⟨a,h,hT,hB⟩:=xPW Tryz.underlying26 xMs q hd;obtain ⟨l,rfl,hw⟩:=xAH (es:=tyP) xOO hT;exact ⟨l,h,hB,hw⟩
theorem xOf (q:Value.okWide Tryz.prog w .any base 25 v) (hd:DataW.Trod enc Tryz.prog w b sp held 25 v d ps):∃ r:List Int×List M.Fc,Rel w (fun _=>False) xTC v (.agg [.list 1 (r.1.map M.encN),.list 3 (r.2.map M.encF)])/\(∀ μ:DataW H->Nat,Meas μ->(AV.agg [.list 1 (r.1.map M.encN),.list 3 (r.2.map M.encF)]).wt<=μ d)/\(∀ y,y∈r.2->y.wf):=by
 obtain ⟨cs,h,hl,hx,hB⟩:=xGC Tryz.underlying25 xNY q hd;match cs,hl with
 | [c0,c1],_ =>
  have h0:=hx 0 (by decide)
  have h1:=hx 1 (by decide)
  change OfTy (.slice [.int .i64]) c0 at h0;change OfTy (.slice tyF) c1 at h1;obtain ⟨l0,rfl,_⟩:=xAH (es:=[.int .i64]) xON h0;obtain ⟨l1,rfl,w1⟩:=xAH (es:=tyF) xOM h1;exact ⟨(l0,l1),h,fun μ hμ=>hB μ hμ,w1.2⟩
theorem xMx (q:Value.okWide Tryz.prog w .any base 54 v) (hd:DataW.Trod enc Tryz.prog w b sp held 54 v d ps):∃ p:M.Per,Rel w (fun _=>False) xTC v (.agg [.int .i64 p.1,.int .i64 p.2])/\(∀ μ:DataW H->Nat,Meas μ->(AV.agg [.int .i64 p.1,.int .i64 p.2]).wt<=μ d)/\M.PerWf p:=by
 obtain ⟨cs,h,hl,hx,hB⟩:=xGC Tryz.underlying54 xMt q hd;match cs,hl with
 | [c0,c1],_ =>
  have h0:=hx 0 (by decide)
  have h1:=hx 1 (by decide)
  change OfTy (.int .i64) c0 at h0;change OfTy (.int .i64) c1 at h1;cases h0 with
  | int _ n0 w0=>cases h1 with
   | int _ n1 w1=>exact ⟨(n0,n1),h,fun μ hμ=>hB μ hμ,w0,w1⟩
end
end Go.Sim
end
noncomputable section
set_option maxRecDepth 100000
namespace Go.Sim.M
open Go.RowKit Go.Sim.Srt
def Strict {α:Type} (c:α->α->Int) (l:List α):Prop:=l.Pairwise fun x y=>c x y<0
theorem Cm.self {α:Type} {c:α->α->Int} (h:Cm c) (x:α):c x x=0:=by have:=h.swap x x;omega
theorem Strict.nodup {α:Type} {c:α->α->Int} (hc:Cm c) {l:List α} (h:Strict c l):l.Nodup :=
 List.Pairwise.imp (fun {x y} q he=>by subst he;rw [hc.self] at q;omega) h
theorem Strict.sorted {α:Type} {c:α->α->Int} {l:List α} (h:Strict c l):Sorted c l:=List.Pairwise.imp (fun q=>by omega) h
theorem xyx {α:Type} {c:α->α->Int} (hc:Cm c) (h0:∀ x y,c x y=0->x=y) {l m:List α} (hl:Strict c l) (hm:Strict c m) (h:∀ x,x∈l↔x∈m):l=m :=
 xzn hc h0 ((List.perm_ext_iff_of_nodup (hl.nodup hc) (hm.nodup hc)).2 h) hl.sorted hm.sorted
theorem xNq {α:Type} {c:α->α->Int} (h0:∀ x y,c x y=0->x=y) {l:List α} (hs:Sorted c l) (hn:l.Nodup):Strict c l :=
 (hs.and hn).imp fun {x y} h=>by
  have:=h.1;have h2:=h.2;by_cases he:c x y=0
  . exact absurd (h0 x y he) h2
  . omega
theorem xt3 (x y:Int):cmpI x y=if x<y then -1 else if y<x then 1 else 0:=rfl
theorem xSa:Cm cmpI:=⟨fun x y=>by
 simp only [xt3];repeat' split
 all_goals omega,fun x y z=>by
  simp only [xt3];repeat' split
  all_goals omega⟩
theorem xBj {p q:Per}:cmpP p q<=0↔p.1<q.1\/p.1=q.1/\p.2<=q.2:=by
 unfold cmpP orI;simp only [xt3];repeat' split
 all_goals omega
theorem xAq (p q:Per):cmpP q p=-(cmpP p q):=by
 unfold cmpP orI;simp only [xt3];repeat' split
 all_goals omega
theorem xNO:Cm cmpP:=⟨xAq,fun x y z h1 h2=>by rw [xBj] at *;omega⟩
theorem xAr (p q:Per) (h:cmpP p q=0):p=q:=by
 have h1:cmpP p q<=0:=by omega
 have h2:cmpP q p<=0:=by rw [xAq];omega
 rw [xBj] at h1 h2;exact Prod.ext (by omega) (by omega)
theorem xMg (p q:Int) (h:cmpI p q=0):p=q:=by
 rw [xt3] at h;repeat' split at h
 all_goals omega
theorem xNp {p:Per} {l:List Per} (h:IsSpan (p::l)):IsSpan l:=⟨fun q hq=>h.1 q (by simp [hq]),(zM.1 h.2).2⟩
theorem xFw:∀ {A:List Per},IsSpan A->∀ t,A.countP (hasP · t)=if inL A t=true then 1 else 0
 | [],_,t=>by simp [xrn]
 | p::A,h,t=>by
  have ih:=xFw (xNp h) t;rw [List.countP_cons,ih,xto];cases hp:hasP p t with
  | false=>simp
  | true=>rw [xDg h hp];simp
theorem xB4 {A:List Per} (h:IsSpan A) (h0:∀ t,inL A t=false):A=[]:=xw5 h xzg fun t=>by rw [h0,xrn]
theorem xNt (N:Nat):∀ n:Nat,((List.range n).map fun h=>if h<N then 1 else 0).sum=min n N
 | 0=>by simp
 | n+1=>by rw [List.range_succ,zx,List.sum_append,xNt N n];simp;split<;>omega
structure IsLevs (N:Int->Nat) (P:List Per):Prop where
 sorted:Sorted cmpP P
 lev:∃ (A:Nat->List Per) (H:Nat),(∀ t,N t<=H)/\(∀ h,IsSpan (A h)/\∀ t,inL (A h) t=decide (h<N t))/\P.Perm ((List.range H).flatMap A)
theorem xuH (A:Nat->List Per) (H:Nat) (h0:∀ h,H<=h->A h=[]):∀ d,(List.range (H+d)).flatMap A=(List.range H).flatMap A
 | 0=>rfl
 | d+1=>by rw [<-Nat.add_assoc,List.range_succ,List.flatMap_append,xuH A H h0 d,zR,h0 (H+d) (by omega)];simp
theorem IsLevs.unique {N:Int->Nat} {P P':List Per} (h:IsLevs N P) (h':IsLevs N P'):P=P':=by
 obtain ⟨A,H,h1,h2,h3⟩:=h.lev;obtain ⟨A',H',O,q,Q⟩:=h'.lev;obtain rfl:A=A':=funext fun k=>xw5 (h2 k).1 (q k).1 fun t=>by rw [(h2 k).2,(q k).2]
 have nil:∀ K,(∀ t,N t<=K)->∀ k,K<=k->A k=[]:=fun K hK k hk=>xB4 (h2 k).1 fun t=>by rw [(h2 k).2];have:=hK t;simp;omega
 refine xzn xNO xAr (h3.trans (List.Perm.trans (.of_eq ?_) Q.symm)) h.sorted h'.sorted;rcases Nat.le_total H H' with J|J
 . have:=xuH A H (nil H h1) (H' - H);rw [show H+(H' - H)=H' by omega] at this
   exact this.symm
 . have:=xuH A H' (nil H' O) (H - H');rw [show H'+(H - H')=H by omega] at this
   exact this
theorem IsLevs.count {N:Int->Nat} {P:List Per} (h:IsLevs N P) (t:Int):P.countP (hasP · t)=N t:=by
 obtain ⟨A,H,h1,h2,h3⟩:=h.lev;rw [h3.countP_eq,List.countP_flatMap];have:(List.countP (fun x=>hasP x t)∘A)=fun k=>if k<N t then 1 else 0:=funext fun k=>by
  show List.countP (hasP · t) (A k)=_;rw [xFw (h2 k).1,(h2 k).2];simp
 rw [this,xNt];have:=h1 t;omega
theorem IsLevs.valid {N:Int->Nat} {P:List Per} (h:IsLevs N P):∀ p,p∈P->pv p=true:=fun p hp=>by
 obtain ⟨A,H,h1,h2,h3⟩:=h.lev;obtain ⟨k,_,hk⟩:=y3.1 (h3.mem_iff.1 hp);exact (h2 k).1.1 p hk
theorem xJ3 {A:List Per} {N:Int->Nat} {k:Nat} (hs:IsSpan A) (hN:∀ t,inL A t=decide (k<N t)) {p:Per} (hp:p∈A):(∀ t,p.1<=t->t<p.2->k<N t)/\N (p.1 - 1)<=k/\N p.2<=k:=by
 have hv:=xbT.1 (hs.1 p hp);refine ⟨fun t h1 h2=>?_,?_,?_⟩
 . have:inL A t=true:=xjz.2 ⟨p,hp,hs.1 p hp,h1,h2⟩;rw [hN] at this;simpa using this
 . have:inL A (p.1 - 1)=false:=by
    cases hc:inL A (p.1 - 1) with
    | false=>rfl
    | true =>
     obtain ⟨q,hq,Q,h1,h2⟩:=xjz.1 hc;have hne:p≠q:=fun e=>by subst e;omega
     rcases pairwise_mem hs.2 hp hq hne with h|h<;>omega
   rw [hN] at this;simpa using this
 . have:inL A p.2=false:=by
    cases hc:inL A p.2 with
    | false=>rfl
    | true =>
     obtain ⟨q,hq,Q,h1,h2⟩:=xjz.1 hc;have hne:p≠q:=fun e=>by subst e;omega
     rcases pairwise_mem hs.2 hp hq hne with h|h<;>omega
   rw [hN] at this;simpa using this
where
 pairwise_mem {l:List Per} (h:l.Pairwise fun p q=>p.2<q.1) {p q:Per} (hp:p∈l) (hq:q∈l) (hne:p≠q):p.2<q.1\/q.2<p.1:=by
  induction l with
  | nil=>simp at hp
  | cons x l ih =>
   obtain ⟨h1,h2⟩:=zM.1 h;rcases zC.1 hp with e1|O
   . rcases zC.1 hq with e2|J
     . exact absurd (e1.trans e2.symm) hne
     . exact .inl (e1▸h1 q J)
   . rcases zC.1 hq with e2|J
     . exact .inr (e2▸h1 p O)
     . exact ih h2 O J
def cnt (l:List Fc) (r:Row) (t:Int):Nat:=l.countP fun f=>decide (f.r=r)&&hasP f.p t
def xSH (l:List Fc) (R:List Row):Prop:=Strict cmpR R/\∀ r,r∈R↔∃ f,f∈l/\f.r=r/\pv f.p=true
theorem xJN {l:List Fc} {r:Row} {t:Int}:0<cnt l r t↔∃ f,f∈l/\f.r=r/\hasP f.p t=true:=by
 unfold cnt;rw [List.countP_pos_iff];simp
theorem xNv {p:Per} (h:pv p=true):hasP p p.1=true:=by
 have:=xbT.1 h;exact xf4.2 ⟨h,by omega,by omega⟩
theorem xGo {p:Per} {t:Int} (h:hasP p t=true):pv p=true:=(xf4.1 h).1
theorem xEt {l:List Fc} {r:Row}:(∃ f,f∈l/\f.r=r/\pv f.p=true)↔∃ t,0<cnt l r t:=by
 constructor
 . rintro ⟨f,h1,h2,h3⟩;exact ⟨f.p.1,xJN.2 ⟨f,h1,h2,xNv h3⟩⟩
 . rintro ⟨t,h⟩;obtain ⟨f,h1,h2,h3⟩:=xJN.1 h;exact ⟨f,h1,h2,xGo h3⟩
theorem xSH.unique {l l':List Fc} {R R':List Row} (h:xSH l R) (h':xSH l' R') (hc:∀ r t,cnt l r t=cnt l' r t):R=R' :=
 xyx xqb (fun _ _=>xkG) h.1 h'.1 fun r=>by rw [h.2,h'.2,xEt,xEt];simp only [hc]
def xSq (R:List Row) (L:Row->List Per):List Fc:=R.flatMap fun r=>(L r).map fun p=>⟨r,p⟩
theorem xul (a b:List Fc) (r:Row) (t:Int):cnt (a++b) r t=cnt a r t+cnt b r t:=List.countP_append
theorem xNT {a b:List Fc} (h:a.Perm b) (r:Row) (t:Int):cnt a r t=cnt b r t:=h.countP_eq _
theorem xPD (r':Row) (P:List Per) (r:Row) (t:Int):cnt (P.map fun p=>(⟨r',p⟩:Fc)) r t=if r'=r then P.countP (hasP · t) else 0:=by
 unfold cnt;rw [List.countP_map];by_cases h:r'=r
 . rw [if_pos h];congr 1;funext p;simp [h]
 . rw [if_neg h,List.countP_eq_zero];simp [h]
theorem xGe (L:Row->List Per) (r:Row) (t:Int):∀ R:List Row,R.Nodup->cnt (xSq R L) r t=if r∈R then (L r).countP (hasP · t) else 0
 | [],_=>by simp [xSq,cnt]
 | r'::R,h=>by
  obtain ⟨h1,h2⟩:=List.nodup_cons.1 h;have e:xSq (r'::R) L=((L r').map fun p=>(⟨r',p⟩:Fc))++xSq R L:=by simp [xSq]
  rw [e,xul,xPD,xGe L r t R h2];by_cases hr:r'=r
  . subst hr;simp [h1]
  . have:¬ r=r':=fun e=>hr e.symm
    simp [hr,this]
def xSw (l B:List Fc):Prop:=∃ R L,xSH l R/\(∀ r,r∈R->IsLevs (cnt l r) (L r))/\B=xSq R L
def xSU (l B:List Fc):Prop:=∃ R L,xSH l R/\(∀ r,r∈R->IsSpan (L r)/\∀ t,inL (L r) t=decide (0<cnt l r t))/\B=xSq R L
theorem xDD {R:List Row} {L L':Row->List Per} (h:∀ r,r∈R->L r=L' r):xSq R L=xSq R L':=by
 unfold xSq;induction R with
 | nil=>rfl
 | cons r R ih=>rw [zR,zR,h r (by simp),ih fun x hx=>h x (by simp [hx])]
theorem xSw.unique {l l' B B':List Fc} (h:xSw l B) (h':xSw l' B') (hc:∀ r t,cnt l r t=cnt l' r t):B=B':=by
 obtain ⟨R,L,h1,h2,rfl⟩:=h;obtain ⟨R',L',q,J,rfl⟩:=h';obtain rfl:=h1.unique q hc;refine xDD fun r hr=>(h2 r hr).unique ?_
 have:=J r hr;rwa [<-show cnt l r=cnt l' r from funext fun t=>hc r t] at this
theorem xSU.unique {l l' B B':List Fc} (h:xSU l B) (h':xSU l' B') (hc:∀ r t,cnt l r t=cnt l' r t):B=B':=by
 obtain ⟨R,L,h1,h2,rfl⟩:=h;obtain ⟨R',L',J,q,rfl⟩:=h';obtain rfl:=h1.unique J hc;exact xDD fun r hr=>xw5 (h2 r hr).1 (q r hr).1 fun t=>by rw [(h2 r hr).2,(q r hr).2,hc]
theorem xSH.zero {l:List Fc} {R:List Row} (h:xSH l R) {r:Row} (hr:r∉R) (t:Int):cnt l r t=0:=by
 cases hc:cnt l r t with
 | zero=>rfl
 | succ n=>exact absurd ((h.2 r).2 (xEt.2 ⟨t,by omega⟩)) hr
theorem xSw.cntB {l B:List Fc} (h:xSw l B) (r:Row) (t:Int):cnt B r t=cnt l r t:=by
 obtain ⟨R,L,h1,h2,rfl⟩:=h;rw [xGe L r t R (h1.1.nodup xqb)];split
 . rename_i hr;exact (h2 r hr).count t
 . rename_i hr;exact (h1.zero hr t).symm
theorem xGh {R:List Row} {L:Row->List Per} {f:Fc} (h:f∈xSq R L):f.r∈R/\f.p∈L f.r:=by
 obtain ⟨r,hr,h⟩:=y3.1 h;obtain ⟨p,hp,rfl⟩:=zK.1 h;exact ⟨hr,hp⟩
theorem xSw.valid {l B:List Fc} (h:xSw l B) {f:Fc} (hf:f∈B):pv f.p=true/\∃ g,g∈l/\g.r=f.r:=by
 obtain ⟨R,L,h1,h2,rfl⟩:=h;obtain ⟨a,b⟩:=xGh hf;refine ⟨(h2 _ a).valid _ b,?_⟩;obtain ⟨g,g1,g2,_⟩:=(h1.2 _).1 a;exact ⟨g,g1,g2⟩
def psOf (l:List Fc) (r:Row):List Per:=(l.filter fun f=>decide (f.r=r)&&pv f.p).map (·.p)
theorem xC1 (l:List Fc) (r:Row) (t:Int):(psOf l r).countP (hasP · t)=cnt l r t:=by
 unfold psOf cnt;rw [List.countP_map,List.countP_filter];refine List.countP_congr fun f _=>?_
 simp only [Function.comp,zf,zl];constructor
 . rintro ⟨h1,h2,_⟩;exact ⟨h2,h1⟩
 . rintro ⟨h1,h2⟩;exact ⟨h2,h1,xGo h2⟩
theorem xOo {l:List Fc} {r:Row}:∀ p,p∈psOf l r->pv p=true:=fun p hp=>by
 obtain ⟨f,hf,rfl⟩:=zK.1 hp;have:=List.mem_filter.1 hf;simp only [zf] at this;exact this.2.2
theorem xId (l:List Fc) (r:Row):(psOf l r).length<=l.length:=by unfold psOf;rw [za];exact List.length_filter_le _ _
theorem xKM {ps:List Per} {t:Int} {k:Nat} (h1:k<ps.countP (hasP · t)) (h2:ps.countP (hasP · (t - 1))<=k):t∈ps.map (·.1):=by
 have:∃ p,p∈ps/\hasP p t=true/\hasP p (t - 1)=false:=by
  refine Classical.byContradiction fun hn=>?_
  have:ps.countP (hasP · t)<=ps.countP (hasP · (t - 1)):=List.countP_mono_left fun p hp h=>by
   cases hc:hasP p (t - 1) with
   | true=>rfl
   | false=>exact absurd ⟨p,hp,h,hc⟩ hn
  omega
 obtain ⟨p,hp,a,b⟩:=this;obtain ⟨hv,x,y⟩:=xf4.1 a;have:¬ p.1<=t - 1:=fun h=>by rw [xf4.2 ⟨hv,h,by omega⟩] at b;cases b
 exact zK.2 ⟨p,hp,by omega⟩
theorem xJ2 {ps A:List Per} {k:Nat} (hs:IsSpan A) (hN:∀ t,inL A t=decide (k<ps.countP (hasP · t))):A.length<=ps.length:=by
 have hn:(A.map (·.1)).Nodup:=by
  unfold List.Nodup;rw [List.pairwise_map];refine List.Pairwise.imp_of_mem (fun {p q} hp hq h=>?_) hs.2
  have:=xbT.1 (hs.1 p hp);omega
 have:(A.map (·.1)) ⊆ ps.map (·.1):=fun t ht=>by
  obtain ⟨p,hp,rfl⟩:=zK.1 ht;obtain ⟨a,b,_⟩:=xJ3 (N:=fun t=>ps.countP (hasP · t)) hs hN hp
  have hv:=xbT.1 (hs.1 p hp);exact xKM (a p.1 (Int.le_refl _) (by omega)) b
 have:=hn.length_le_of_subset this;simpa using this
theorem IsLevs.len {ps P:List Per} (h:IsLevs (fun t=>ps.countP (hasP · t)) P):P.length<=ps.length*ps.length:=by
 obtain ⟨A,H,h1,h2,h3⟩:=h.lev;have hx:P.length=((List.range ps.length).flatMap A).length:=by
  rw [h3.length_eq];have nil:∀ k,ps.length<=k->A k=[]:=fun k hk=>xB4 (h2 k).1 fun t=>by
   rw [(h2 k).2];have:=List.countP_le_length (p:=(hasP · t)) (l:=ps);simp;omega
  have q:∀ k,H<=k->A k=[]:=fun k hk=>xB4 (h2 k).1 fun t=>by
   rw [(h2 k).2];have:=h1 t;simp;omega
  rcases Nat.le_total H ps.length with J|J
  . have:=xuH A H q (ps.length - H);rw [show H+(ps.length - H)=ps.length by omega] at this
    rw [this]
  . have:=xuH A ps.length nil (H - ps.length);rw [show ps.length+(H - ps.length)=H by omega] at this
    rw [this]
 rw [hx];have:=xgN (g:=A) (c:=ps.length) (List.range ps.length) fun k _=>xJ2 (h2 k).1 (h2 k).2
 simpa using this
theorem xCV {L:Row->List Per}:∀ {R:List Row} {l:List Fc},R.Nodup->(∀ r,r∈R->(L r).length<=(psOf l r).length*(psOf l r).length)->(xSq R L).length<=l.length*l.length
 | [],l,_,_=>by simp [xSq]
 | r::R,l,hn,h=>by
  obtain ⟨n1,n2⟩:=List.nodup_cons.1 hn;have e:xSq (r::R) L=((L r).map fun p=>(⟨r,p⟩:Fc))++xSq R L:=by simp [xSq]
  let l2:=l.filter fun f=>!decide (f.r=r)
  have J:∀ r',r'∈R->psOf l2 r'=psOf l r':=fun r' q=>by
   have hne:r'≠r:=fun e=>n1 (e▸q)
   unfold psOf;simp only [l2,List.filter_filter];congr 1;refine List.filter_congr fun f _=>?_
   by_cases hf:f.r=r'
   . have:¬ f.r=r:=fun e=>hne (hf▸e)
     simp [hf,hne]
   . simp [hf]
  have ih:=xCV (L:=L) (l:=l2) n2 fun r' q=>by rw [J r' q];exact h r' (by simp [q])
  have h1:=h r (by simp)
  have hl:(psOf l r).length+l2.length<=l.length:=by
   unfold psOf;rw [za];have:=List.length_eq_countP_add_countP (fun f:Fc=>decide (f.r=r)) (l:=l)
   have a1:(l.filter fun f=>decide (f.r=r)&&pv f.p).length<=l.countP fun f=>decide (f.r=r):=by
    rw [<-List.countP_eq_length_filter];exact List.countP_mono_left fun f _ hf=>by simp only [zf] at hf;exact hf.1
   have a2:l2.length=l.countP fun f=>¬ decide (f.r=r)=true:=by
    rw [List.countP_eq_length_filter];simp [l2]
   omega
  rw [e,z8,za];have m1:=Nat.mul_le_mul hl hl;have m2:(psOf l r).length*(psOf l r).length+l2.length*l2.length<=((psOf l r).length+l2.length)*((psOf l r).length+l2.length):=by
   rw [Nat.add_mul,Nat.mul_add,Nat.mul_add];omega
  omega
theorem xSw.len {l B:List Fc} (h:xSw l B):B.length<=l.length*l.length:=by
 obtain ⟨R,L,h1,h2,rfl⟩:=h;refine xCV (h1.1.nodup xqb) fun r hr=>?_
 have:=h2 r hr;rw [show cnt l r=fun t=>(psOf l r).countP (hasP · t) from funext fun t=>(xC1 l r t).symm] at this
 exact this.len
section
variable {α : Type} {enc : α -> AV} {okE : AV -> Bool} {ldE : AV -> AV}
theorem gR {l:List α} {i:Nat} {x:α} (h:l[i]?=some x):(List.map enc l).getD i .top=enc x:=by
 simp [List.getD,h]
theorem setR (l:List α) (i:Nat) (x:α):(List.map enc l).set i (enc x)=List.map enc (l.set i x):=by
 simp [List.map_set]
theorem xqB {l:List α} {i:Nat} {x:α} (h:l[i]?=some x):i<l.length:=(List.getElem?_eq_some_iff.1 h).1
theorem xe9 {l:List α} {i:Nat} {x:α} (h:l[i]?=some x):x∈l:=List.mem_of_getElem? h
theorem xOa {l:List α} {i j:Nat} {x y:α} (hx:x∈l) (hy:y∈l) {z:α} (h:z∈(l.set i y).set j x):z∈l:=by
 rcases List.mem_or_eq_of_mem_set h with h|rfl
 . rcases List.mem_or_eq_of_mem_set h with h|rfl
   . exact h
   . exact hy
 . exact hx
theorem w64 {x:Int} {n:Nat} (h:x=(n:Int)) (hn:n<=9223372036854775807):IntKind.i64.wrap x=(n:Int):=by
 rw [xa1 (by omega) (by omega)];exact h
theorem xTa {i j:Nat} (h:i+j<=9223372036854775807):IntKind.i64.wrap ((IntKind.u64.wrap (IntKind.i64.wrap ((i:Int)+(j:Int)))).fdiv 2)=(((i+j) / 2:Nat):Int):=by
 rw [xa1 (n:=(i:Int)+(j:Int)) (by omega) (by omega)]
 have hu:IntKind.u64.wrap ((i:Int)+(j:Int))=(i:Int)+(j:Int):=by
  unfold IntKind.wrap IntKind.bits IntKind.signed;simp;omega
 rw [hu,Int.fdiv_eq_ediv_of_nonneg _ (by omega)]
 exact w64 (by omega) (by omega)
structure LOk (N:Nat) (ok:α->Prop) (l:List α):Prop where
 len:l.length=N
 ok:∀ x,x∈l->ok x
theorem LOk.set2 {N:Nat} {ok:α->Prop} {l:List α} (h:LOk N ok l) {i j:Nat} {x y:α} (hx:x∈l) (hy:y∈l):LOk N ok ((l.set i y).set j x) :=
 ⟨by simp [h.len],fun z hz=>h.ok z (xOa hx hy hz)⟩
theorem LOk.perm {N:Nat} {ok:α->Prop} {l l':List α} (h:LOk N ok l) (hp:l'.Perm l):LOk N ok l' :=
 ⟨hp.length_eq.trans h.len,fun z hz=>h.ok z (hp.mem_iff.1 hz)⟩
theorem xkM {σ ρ σ' ρ':Type} {p:σ->Option (σ⊕ρ)} {g:σ'->Option (σ'⊕ρ')} (I:σ->Prop) (J:ρ->Prop) (e:σ->σ') (f:ρ->ρ')
  (h:∀ s,I s->(∀ s',p s=some (.inl s')->g (e s)=some (.inl (e s'))/\I s')/\(∀ r,p s=some (.inr r)->g (e s)=some (.inr (f r))/\J r)) {s:σ} {r:ρ} (hI:I s) (hr:Iter p s=some r):Iter g (e s)=some (f r)/\J r:=by
 obtain ⟨n,hn⟩:=xwp.1 hr;clear hr;induction n generalizing s with
 | zero=>simp [iterN] at hn
 | succ n ih =>
  unfold iterN at hn;obtain ⟨h1,h2⟩:=h s hI;split at hn
  . rename_i s' hs;obtain ⟨h3,h4⟩:=h1 s' hs;rw [xaM h3];exact ih h4 hn
  . rename_i r' hs;cases hn;obtain ⟨h3,h4⟩:=h2 _ hs;exact ⟨xam h3,h4⟩
  . simp at hn
theorem xsO {σ ρ σ' ρ':Type} {p:Option (σ⊕ρ)} {g:Option (σ'⊕ρ')} {I:σ->Prop} {J:ρ->Prop} {e:σ->σ'} {f:ρ->ρ'} {s0:σ} (hp:p=some (.inl s0)) (hg:g=some (.inl (e s0))) (hI:I s0) :
  (∀ s',p=some (.inl s')->g=some (.inl (e s'))/\I s')/\(∀ r,p=some (.inr r)->g=some (.inr (f r))/\J r) :=
 ⟨fun s' h=>by rw [hp] at h;simp only [z6,Sum.inl.injEq] at h;subst h;exact ⟨hg,hI⟩,fun r h=>by rw [hp] at h;simp at h⟩
theorem xsA {σ ρ σ' ρ':Type} {p:Option (σ⊕ρ)} {g:Option (σ'⊕ρ')} {I:σ->Prop} {J:ρ->Prop} {e:σ->σ'} {f:ρ->ρ'} {r0:ρ} (hp:p=some (.inr r0)) (hg:g=some (.inr (f r0))) (hJ:J r0) :
  (∀ s',p=some (.inl s')->g=some (.inl (e s'))/\I s')/\(∀ r,p=some (.inr r)->g=some (.inr (f r))/\J r) :=
 ⟨fun s' h=>by rw [hp] at h;simp at h,fun r h=>by rw [hp] at h;simp only [z6,Sum.inr.injEq] at h;subst h;exact ⟨hg,hJ⟩⟩
theorem xgc {σ ρ σ' ρ':Type} {p:Option (σ⊕ρ)} {g:Option (σ'⊕ρ')} {I:σ->Prop} {J:ρ->Prop} {e:σ->σ'} {f:ρ->ρ'} (hp:p=none) :
  (∀ s',p=some (.inl s')->g=some (.inl (e s'))/\I s')/\(∀ r,p=some (.inr r)->g=some (.inr (f r))/\J r) :=
 ⟨fun s' h=>by rw [hp] at h;simp at h,fun r h=>by rw [hp] at h;simp at h⟩
theorem xKi {N:Nat} (he:∀ a,okE (enc a)=true) (hd:∀ a,ldE (enc a)=enc a) (hN:N<=2 ^ 60) {ok:α->Prop} {c:α->α->Int} {P:AV->AV->Bool} {V:AV->AV->Int} (hc:∀ x y,ok x->ok y->P (enc x) (enc y)=true/\V (enc x) (enc y)=c x y)
  {g:Int×List AV->Option ((Int×List AV)⊕List AV)} (a:Nat)
  (hg:∀ (j:Int) (xs:List AV),g (j,xs)=br (decide (j>(a:Int))) (br (decide ((0:Int)<=j)&&decide (j<(N:Int))) (br (decide ((0:Nat)+j.toNat<xs.length)&&okE (xs.getD ((0:Nat)+j.toNat) AV.top))
   (br (decide ((0:Int)<=IntKind.i64.wrap (j - 1))&&decide (IntKind.i64.wrap (j - 1)<(N:Int))) (br (decide ((0:Nat)+(IntKind.i64.wrap (j - 1)).toNat<xs.length)&&okE (xs.getD ((0:Nat)+(IntKind.i64.wrap (j - 1)).toNat) AV.top))
   (br (P (xs.getD ((0:Nat)+j.toNat) AV.top) (xs.getD ((0:Nat)+(IntKind.i64.wrap (j - 1)).toNat) AV.top))
   (br (decide (V (xs.getD ((0:Nat)+j.toNat) AV.top) (xs.getD ((0:Nat)+(IntKind.i64.wrap (j - 1)).toNat) AV.top)<0))
   (br (decide ((0:Int)<=IntKind.i64.wrap (j - 1))&&decide (IntKind.i64.wrap (j - 1)<(N:Int))) (br (decide ((0:Nat)+(IntKind.i64.wrap (j - 1)).toNat<xs.length)&&okE (xs.getD ((0:Nat)+(IntKind.i64.wrap (j - 1)).toNat) AV.top))
   (br (decide ((0:Int)<=j)&&decide (j<(N:Int))) (br (decide ((0:Nat)+j.toNat<xs.length)&&okE (xs.getD ((0:Nat)+j.toNat) AV.top))
   (br (decide ((0:Int)<=j)&&decide (j<(N:Int))) (br (decide ((0:Nat)+j.toNat<xs.length)) (br (decide ((0:Int)<=IntKind.i64.wrap (j - 1))&&decide (IntKind.i64.wrap (j - 1)<(N:Int)))
   (br (decide ((0:Nat)+(IntKind.i64.wrap (j - 1)).toNat<(xs.set ((0:Nat)+j.toNat) (ldE (xs.getD ((0:Nat)+(IntKind.i64.wrap (j - 1)).toNat) AV.top))).length))
    (some (.inl (IntKind.i64.wrap (j - 1),(xs.set ((0:Nat)+j.toNat) (ldE (xs.getD ((0:Nat)+(IntKind.i64.wrap (j - 1)).toNat) AV.top))).set ((0:Nat)+(IntKind.i64.wrap (j - 1)).toNat) (ldE (xs.getD ((0:Nat)+j.toNat) AV.top)))))
    none) none) none) none) none) none) none) none) (some (.inr xs))) none) none) none) none) none) (some (.inr xs)))
  {j:Nat} {l r:List α} (hl:LOk N ok l) (hr:Iter (xSr c a) (j,l)=some r):Iter g ((j:Int),List.map enc l)=some (List.map enc r)/\LOk N ok r:=by
 refine xkM (I:=fun s=>LOk N ok s.2) (J:=LOk N ok) (e:=fun s=>((s.1:Int),List.map enc s.2)) (f:=List.map enc) ?_ (s:=(j,l)) hl hr
 rintro ⟨j,l⟩ (hl:LOk N ok l);have U:l.length=N:=hl.len;by_cases ha:a<j
 . cases hx:l[j]? with
   | none=>exact xgc (by simp [xSr,ha,hx])
   | some x =>
    cases hy:l[j - 1]? with
    | none=>exact xgc (by simp [xSr,ha,hx,hy])
    | some y =>
     have hj:=xqB hx;have Q:=xqB hy;have w1:IntKind.i64.wrap ((j:Int) - 1)=((j - 1:Nat):Int):=w64 (by omega) (by omega)
     obtain ⟨c1,c2⟩:=hc x y (hl.ok _ (xe9 hx)) (hl.ok _ (xe9 hy));have k1:(j:Int)<(N:Int):=by omega
     have k2:((j - 1:Nat):Int)<(N:Int):=by omega
     have k3:(j:Int)>(a:Int):=by omega
     have k4:j<(List.map enc l).length:=by simpa using hj
     have k5:j - 1<(List.map enc l).length:=by simpa using Q
     by_cases O:c x y<0
     . have hp:xSr c a (j,l)=some (.inl (j - 1,(l.set j y).set (j - 1) x)):=by simp [xSr,ha,hx,hy,O]
       have q:g ((j:Int),List.map enc l)=some (.inl (((j - 1:Nat):Int),List.map enc ((l.set j y).set (j - 1) x))):=by
        rw [hg];simp only [w1,zN,zH,gR hx,gR hy,he,hd,c1,c2,setR,O,k1,k2,k3,k4,k5,zn,zS,xaj,Int.natCast_nonneg,za,y2,hj,Q,sUF]
       exact xsO hp q (hl.set2 (xe9 hx) (xe9 hy))
     . have hp:xSr c a (j,l)=some (.inr l):=by simp [xSr,ha,hx,hy,O]
       have q:g ((j:Int),List.map enc l)=some (.inr (List.map enc l)):=by
        rw [hg];simp only [w1,zN,zH,gR hx,gR hy,he,hd,c1,c2,setR,O,k1,k2,k3,k4,k5,zn,zm,zS,xaj,xag,Int.natCast_nonneg,sUF]
       exact xsA hp q hl
 . have hp:xSr c a (j,l)=some (.inr l):=by simp [xSr,ha]
   have k3:¬ ((j:Int)>(a:Int)):=by omega
   have q:g ((j:Int),List.map enc l)=some (.inr (List.map enc l)):=by
    rw [hg];simp only [k3,zm,xag,sUF]
   exact xsA hp q hl
def xchK {T:Type} (okE:AV->Bool) (ldE:AV->AV) (N:Nat) (u v:Int) (xs:List AV) (δ:T) (κ:List AV->T):T :=
 br (decide ((0:Int)<=v)&&decide (v<(N:Int))) (br (decide ((0:Nat)+v.toNat<xs.length)&&okE (xs.getD ((0:Nat)+v.toNat) AV.top))
 (br (decide ((0:Int)<=u)&&decide (u<(N:Int))) (br (decide ((0:Nat)+u.toNat<xs.length)&&okE (xs.getD ((0:Nat)+u.toNat) AV.top))
 (br (decide ((0:Int)<=u)&&decide (u<(N:Int))) (br (decide ((0:Nat)+u.toNat<xs.length)) (br (decide ((0:Int)<=v)&&decide (v<(N:Int)))
 (br (decide ((0:Nat)+v.toNat<(xs.set ((0:Nat)+u.toNat) (ldE (xs.getD ((0:Nat)+v.toNat) AV.top))).length))
  (κ ((xs.set ((0:Nat)+u.toNat) (ldE (xs.getD ((0:Nat)+v.toNat) AV.top))).set ((0:Nat)+v.toNat) (ldE (xs.getD ((0:Nat)+u.toNat) AV.top))))
  δ) δ) δ) δ) δ) δ) δ) δ
theorem xIK {T:Type} {N:Nat} (he:∀ a,okE (enc a)=true) (hd:∀ a,ldE (enc a)=enc a)  {l:List α} (hl:l.length=N) {i j:Nat} {x y:α} (hx:l[i]?=some x) (hy:l[j]?=some y) {δ:T} {κ:List AV->T}:xchK okE ldE N (i:Int) (j:Int) (List.map enc l) δ κ=κ (List.map enc ((l.set i y).set j x)):=by
 have h1:=xqB hx;have h2:=xqB hy;have k1:(i:Int)<(N:Int):=by omega
 have k2:(j:Int)<(N:Int):=by omega
 have k4:i<(List.map enc l).length:=by simpa using h1
 have k5:j<(List.map enc l).length:=by simpa using h2
 unfold xchK;simp only [zN,zH,gR hx,gR hy,he,hd,setR,k1,k2,k4,k5,zn,zS,xaj,Int.natCast_nonneg,za,y2,h1,h2,sUF]
theorem xQf {N:Nat} (he:∀ a,okE (enc a)=true) (hd:∀ a,ldE (enc a)=enc a) (hN:N<=2 ^ 60) {ok:α->Prop} {g:Int×List AV->Option ((Int×List AV)⊕List AV)} (a b n:Nat) (ha:a<=2 ^ 60) (hb:b<=2 ^ 60) (hn:n<=2 ^ 60)
  (hg:∀ (i:Int) (xs:List AV),g (i,xs)=br (decide (i<(n:Int))) (xchK okE ldE N (IntKind.i64.wrap ((a:Int)+i)) (IntKind.i64.wrap ((b:Int)+i)) xs none fun ys=>some (.inl (IntKind.i64.wrap (i+1),ys))) (some (.inr xs)))
  {l r:List α} (hl:LOk N ok l) (hr:swr a b n l=some r):Iter g ((0:Int),List.map enc l)=some (List.map enc r)/\LOk N ok r:=by
 refine xkM (I:=fun s=>LOk N ok s.2) (J:=LOk N ok) (e:=fun s=>((s.1:Int),List.map enc s.2)) (f:=List.map enc) ?_ (s:=(0,l)) hl hr
 rintro ⟨i,l⟩ (hl:LOk N ok l);by_cases hi:i<n
 . cases hx:l[a+i]? with
   | none=>exact xgc (by simp [xSK,hi,hx])
   | some x =>
    cases hy:l[b+i]? with
    | none=>exact xgc (by simp [xSK,hi,hx,hy])
    | some y =>
     refine xsO (s0:=(i+1,(l.set (a+i) y).set (b+i) x)) (by simp [xSK,hi,hx,hy]) ?_ (hl.set2 (xe9 hx) (xe9 hy))
     rw [hg,show decide ((i:Int)<(n:Int))=true by simp [hi],xaj,w64 (n:=a+i) (by omega) (by omega),w64 (n:=b+i) (by omega) (by omega),xIK he hd hl.len hx hy,w64 (n:=i+1) (by omega) (by omega)]
 . refine xsA (r0:=l) (by simp [xSK,hi]) ?_ hl
   rw [hg,show decide ((i:Int)<(n:Int))=false by simp;omega,xag]
theorem xRp {N:Nat} (he:∀ a,okE (enc a)=true) (hd:∀ a,ldE (enc a)=enc a) (hN:N<=2 ^ 60) {ok:α->Prop} {g:Int×List AV->Option ((Int×List AV)⊕List AV)} (e i:Nat) (hi:i=e+1) (q:e<=2 ^ 60)
  (hg:∀ (k:Int) (xs:List AV),g (k,xs)=br (decide (k<IntKind.i64.wrap ((i:Int) - 1))) (xchK okE ldE N k (IntKind.i64.wrap (k+1)) xs none fun ys=>some (.inl (IntKind.i64.wrap (k+1),ys))) (some (.inr xs)))
  {k:Nat} {l r:List α} (hl:LOk N ok l) (hr:Iter (xSN e) (k,l)=some r):Iter g ((k:Int),List.map enc l)=some (List.map enc r)/\LOk N ok r:=by
 refine xkM (I:=fun s=>LOk N ok s.2) (J:=LOk N ok) (e:=fun s=>((s.1:Int),List.map enc s.2)) (f:=List.map enc) ?_ (s:=(k,l)) hl hr
 rintro ⟨k,l⟩ (hl:LOk N ok l);have we:IntKind.i64.wrap ((i:Int) - 1)=(e:Int):=w64 (by omega) (by omega)
 by_cases hk:k<e
 . cases hx:l[k]? with
   | none=>exact xgc (by simp [xSN,hk,hx])
   | some x =>
    cases hy:l[k+1]? with
    | none=>exact xgc (by simp [xSN,hk,hx,hy])
    | some y =>
     refine xsO (s0:=(k+1,(l.set k y).set (k+1) x)) (by simp [xSN,hk,hx,hy]) ?_ (hl.set2 (xe9 hx) (xe9 hy))
     rw [hg,we,show decide ((k:Int)<(e:Int))=true by simp [hk],xaj,w64 (n:=k+1) (by omega) (by omega),xIK he hd hl.len hx hy]
 . refine xsA (r0:=l) (by simp [xSN,hk]) ?_ hl
   rw [hg,we,show decide ((k:Int)<(e:Int))=false by simp;omega,xag]
theorem xOG {N:Nat} (he:∀ a,okE (enc a)=true) (hd:∀ a,ldE (enc a)=enc a) (hN:N<=2 ^ 60) {ok:α->Prop} {g:Int×List AV->Option ((Int×List AV)⊕List AV)} (e:Nat)
  (hg:∀ (k:Int) (xs:List AV),g (k,xs)=br (decide (k>(e:Int))) (xchK okE ldE N k (IntKind.i64.wrap (k - 1)) xs none fun ys=>some (.inl (IntKind.i64.wrap (k - 1),ys))) (some (.inr xs)))
  {k:Nat} {l r:List α} (hl:LOk N ok l) (hr:Iter (xSz e) (k,l)=some r):Iter g ((k:Int),List.map enc l)=some (List.map enc r)/\LOk N ok r:=by
 refine xkM (I:=fun s=>LOk N ok s.2) (J:=LOk N ok) (e:=fun s=>((s.1:Int),List.map enc s.2)) (f:=List.map enc) ?_ (s:=(k,l)) hl hr
 rintro ⟨k,l⟩ (hl:LOk N ok l);by_cases hk:e<k
 . cases hx:l[k]? with
   | none=>exact xgc (by simp [xSz,hk,hx])
   | some x =>
    cases hy:l[k - 1]? with
    | none=>exact xgc (by simp [xSz,hk,hx,hy])
    | some y =>
     have q:=hl.len;have:=xqB hx;refine xsO (s0:=(k - 1,(l.set k y).set (k - 1) x)) (by simp [xSz,hk,hx,hy]) ?_ (hl.set2 (xe9 hx) (xe9 hy))
     rw [hg,show decide ((k:Int)>(e:Int))=true by simp [hk],xaj,w64 (x:=(k:Int) - 1) (n:=k - 1) (by omega) (by omega),xIK he hd hl.len hx hy]
 . refine xsA (r0:=l) (by simp [xSz,hk]) ?_ hl
   rw [hg,show decide ((k:Int)>(e:Int))=false by simp;omega,xag]
def cmpK {T:Type} (okE:AV->Bool) (N:Nat) (P:AV->AV->Bool) (u v:Int) (xs:List AV) (δ:T) (κ:AV->AV->T):T :=
 br (decide ((0:Int)<=u)&&decide (u<(N:Int))) (br (decide ((0:Nat)+u.toNat<xs.length)&&okE (xs.getD ((0:Nat)+u.toNat) AV.top))
 (br (decide ((0:Int)<=v)&&decide (v<(N:Int))) (br (decide ((0:Nat)+v.toNat<xs.length)&&okE (xs.getD ((0:Nat)+v.toNat) AV.top))
 (br (P (xs.getD ((0:Nat)+u.toNat) AV.top) (xs.getD ((0:Nat)+v.toNat) AV.top))
  (κ (xs.getD ((0:Nat)+u.toNat) AV.top) (xs.getD ((0:Nat)+v.toNat) AV.top)) δ) δ) δ) δ) δ
theorem xPB {T:Type} {N:Nat} (he:∀ a,okE (enc a)=true)  {P:AV->AV->Bool} {l:List α} (hl:l.length=N) {i j:Nat} {x y:α} (hx:l[i]?=some x) (hy:l[j]?=some y) (hP:P (enc x) (enc y)=true) {δ:T} {κ:AV->AV->T}:cmpK okE N P (i:Int) (j:Int) (List.map enc l) δ κ=κ (enc x) (enc y):=by
 have h1:=xqB hx;have h2:=xqB hy;have k1:(i:Int)<(N:Int):=by omega
 have k2:(j:Int)<(N:Int):=by omega
 have k4:i<(List.map enc l).length:=by simpa using h1
 have k5:j<(List.map enc l).length:=by simpa using h2
 unfold cmpK;simp only [zN,zH,gR hx,gR hy,he,hP,k1,k2,k4,k5,zn,zS,xaj,Int.natCast_nonneg,sUF]
def xS4 (i j:Int):Int:=IntKind.i64.wrap ((IntKind.u64.wrap (IntKind.i64.wrap (i+j))).fdiv 2)
theorem xIy {N:Nat} (he:∀ a,okE (enc a)=true) (hN:N<=2 ^ 60) {ok:α->Prop} {c:α->α->Int} {P:AV->AV->Bool} {V:AV->AV->Int} (hc:∀ x y,ok x->ok y->P (enc x) (enc y)=true/\V (enc x) (enc y)=c x y)
  {g:Int×Int×List AV->Option ((Int×Int×List AV)⊕(Int×List AV))} (u v:Nat->Nat) (U V':Int->Int) (lo hi:Nat) (W:hi<=2 ^ 61) (hu:∀ h,lo<=h->h<hi->U (h:Int)=(u h:Int)) (hv:∀ h,lo<=h->h<hi->V' (h:Int)=(v h:Int)) (t:Int->Bool)
  (hg:∀ (i j:Int) (xs:List AV),g (i,j,xs)=br (decide (i<j)) (cmpK okE N P (U (xS4 i j)) (V' (xS4 i j)) xs none fun X Y=>br (t (V X Y)) (some (.inl (IntKind.i64.wrap (xS4 i j+1),j,xs))) (some (.inl (i,xS4 i j,xs)))) (some (.inr (i,xs))))
  {l:List α} (hl:LOk N ok l) {i j r:Nat} (h1:lo<=i) (h2:j<=hi) (h3:i<=hi) (hr:Iter (xSv fun h=>(get2 c l (u h) (v h)).map t) (i,j)=some r):Iter g ((i:Int),(j:Int),List.map enc l)=some ((r:Int),List.map enc l)/\lo<=r/\r<=hi:=by
 refine xkM (I:=fun s=>lo<=s.1/\s.2<=hi/\s.1<=hi) (J:=fun r=>lo<=r/\r<=hi) (e:=fun (s:Nat×Nat)=>((s.1:Int),(s.2:Int),List.map enc l)) (f:=fun (r:Nat)=>((r:Int),List.map enc l)) ?_ (s:=(i,j)) ⟨h1,h2,h3⟩ hr
 rintro ⟨i,j⟩ ⟨h1,h2,h3⟩;dsimp only at h1 h2 h3;by_cases q:i<j
 . have hh:xS4 (i:Int) (j:Int)=(((i+j) / 2:Nat):Int):=xTa (by omega)
   have b1:lo<=(i+j) / 2:=by omega
   have b2:(i+j) / 2<hi:=by omega
   have O:decide ((i:Int)<(j:Int))=true:=by simp [q]
   cases hx:l[u ((i+j) / 2)]? with
   | none=>exact xgc (by simp [xSv,q,get2,hx])
   | some x =>
    cases hy:l[v ((i+j) / 2)]? with
    | none=>exact xgc (by simp [xSv,q,get2,hx,hy])
    | some y =>
     obtain ⟨c1,c2⟩:=hc x y (hl.ok _ (xe9 hx)) (hl.ok _ (xe9 hy));have Q:=hg (i:Int) (j:Int) (List.map enc l);rw [O,xaj,hh,hu _ b1 b2,hv _ b1 b2,xPB he hl.len hx hy c1,c2] at Q;cases ht:t (c x y) with
     | true =>
      rw [ht,xaj,w64 (n:=(i+j) / 2+1) (by omega) (by omega)] at Q
      exact xsO (s0:=((i+j) / 2+1,j)) (by simp [xSv,q,get2,hx,hy,ht]) Q ⟨by dsimp only;omega,h2,by dsimp only;omega⟩
     | false =>
      rw [ht,xag] at Q;exact xsO (s0:=(i,(i+j) / 2)) (by simp [xSv,q,get2,hx,hy,ht]) Q ⟨h1,by dsimp only;omega,h3⟩
 . have O:decide ((i:Int)<(j:Int))=false:=by simp;omega
   refine xsA (r0:=i) (by simp [xSv,q]) ?_ ⟨h1,h3⟩
   rw [hg,O,xag]
theorem xQe {N:Nat} (hN:N<=2 ^ 60) {ok:α->Prop} {SW:Int->Int->Int->List AV->Option (List AV)} (q:∀ (a b n:Nat) (l r:List α),a<=2 ^ 60->b<=2 ^ 60->n<=2 ^ 60->LOk N ok l->swr a b n l=some r->SW a b n (List.map enc l)=some (List.map enc r)/\LOk N ok r)
  {g:Int×Int×List AV->Option ((Int×Int×List AV)⊕(Int×List AV))} (m:Nat) (hm:m<=N)
  (hg:∀ (i j:Int) (xs:List AV),g (i,j,xs)=br (i != j) (br (decide (i>j)) (br (SW (IntKind.i64.wrap ((m:Int) - i)) m j xs).isSome (some (.inl (IntKind.i64.wrap (i - j),j,(SW (IntKind.i64.wrap ((m:Int) - i)) m j xs).getD []))) none)
   (br (SW (IntKind.i64.wrap ((m:Int) - i)) (IntKind.i64.wrap (IntKind.i64.wrap ((m:Int)+j) - i)) i xs).isSome (some (.inl (i,IntKind.i64.wrap (j - i),(SW (IntKind.i64.wrap ((m:Int) - i)) (IntKind.i64.wrap (IntKind.i64.wrap ((m:Int)+j) - i)) i xs).getD []))) none)) (some (.inr (i,xs))))
  {i j:Nat} {l l':List α} {i':Nat} (hi:i<=m) (hj:m+j<=N) (hl:LOk N ok l) (hr:Iter (xSy m) (i,j,l)=some (i',l')):Iter g ((i:Int),(j:Int),List.map enc l)=some ((i':Int),List.map enc l')/\i'<=m/\LOk N ok l':=by
 refine xkM (I:=fun s=>s.1<=m/\m+s.2.1<=N/\LOk N ok s.2.2) (J:=fun r=>r.1<=m/\LOk N ok r.2) (e:=fun (s:Nat×Nat×List α)=>((s.1:Int),(s.2.1:Int),List.map enc s.2.2)) (f:=fun (r:Nat×List α)=>((r.1:Int),List.map enc r.2)) ?_ (s:=(i,j,l)) ⟨hi,hj,hl⟩ hr
 rintro ⟨i,j,l⟩ ⟨hi,hj,hl⟩;dsimp only at hi hj hl;by_cases h1:i=j
 . subst h1;refine xsA (r0:=(i,l)) (by simp [xSy]) ?_ ⟨hi,hl⟩
   rw [hg];simp [xag,sUF]
 . have d1:((i:Int) != (j:Int))=true:=by simp;omega
   have w1:IntKind.i64.wrap ((m:Int) - (i:Int))=((m - i:Nat):Int):=w64 (by omega) (by omega)
   by_cases h2:j<i
   . cases hs:swr (m - i) m j l with
     | none=>exact xgc (by simp [xSy,h1,h2,hs])
     | some l1 =>
      obtain ⟨e1,e2⟩:=q (m - i) m j l l1 (by omega) (by omega) (by omega) hl hs
      refine xsO (s0:=(i - j,j,l1)) (by simp [xSy,h1,h2,hs]) ?_ ⟨by dsimp only;omega,hj,e2⟩
      rw [hg,d1,xaj,show decide ((i:Int)>(j:Int))=true by simp [h2],xaj,w1,e1,w64 (x:=(i:Int) - (j:Int)) (n:=i - j) (by omega) (by omega)]
      rfl
   . cases hs:swr (m - i) (m+j - i) i l with
     | none=>exact xgc (by simp [xSy,h1,h2,hs])
     | some l1 =>
      obtain ⟨e1,e2⟩:=q (m - i) (m+j - i) i l l1 (by omega) (by omega) (by omega) hl hs
      refine xsO (s0:=(i,j - i,l1)) (by simp [xSy,h1,h2,hs]) ?_ ⟨hi,by dsimp only;omega,e2⟩
      rw [hg,d1,xaj,show decide ((i:Int)>(j:Int))=false by simp;omega,xag,w1,w64 (x:=(m:Int)+(j:Int)) (n:=m+j) (by omega) (by omega),w64 (x:=((m+j:Nat):Int) - (i:Int)) (n:=m+j - i) (by omega) (by omega),e1,w64 (x:=(j:Int) - (i:Int)) (n:=j - i) (by omega) (by omega)]
      rfl
theorem xIz {N:Nat} (hN:N<=2 ^ 60) {ok:α->Prop} {c:α->α->Int} (a b:Nat) (hb:b<=N) {gi:Int->Int×List AV->Option ((Int×List AV)⊕List AV)}
  (hi:∀ (i:Nat) (l r:List α),LOk N ok l->Iter (xSr c a) (i,l)=some r->Iter (gi i) ((i:Int),List.map enc l)=some (List.map enc r)/\LOk N ok r)
  {g:Int×List AV->Option ((Int×List AV)⊕List AV)}
  (hg:∀ (i:Int) (xs:List AV),g (i,xs)=br (decide (i<(b:Int))) (br (Iter (gi i) (i,xs)).isSome (some (.inl (IntKind.i64.wrap (i+1),(Iter (gi i) (i,xs)).getD []))) none) (some (.inr xs)))
  {i:Nat} {l r:List α} (hl:LOk N ok l) (hr:Iter (xSG c a b) (i,l)=some r):Iter g ((i:Int),List.map enc l)=some (List.map enc r)/\LOk N ok r:=by
 refine xkM (I:=fun s=>LOk N ok s.2) (J:=LOk N ok) (e:=fun s=>((s.1:Int),List.map enc s.2)) (f:=List.map enc) ?_ (s:=(i,l)) hl hr
 rintro ⟨i,l⟩ (hl:LOk N ok l);by_cases h:i<b
 . cases hs:Iter (xSr c a) (i,l) with
   | none=>exact xgc (by simp [xSG,h,hs])
   | some l1 =>
    obtain ⟨e1,e2⟩:=hi i l l1 hl hs;refine xsO (s0:=(i+1,l1)) (by simp [xSG,h,hs]) ?_ e2
    rw [hg,show decide ((i:Int)<(b:Int))=true by simp [h],xaj,e1,w64 (x:=(i:Int)+1) (n:=i+1) (by omega) (by omega)]
    rfl
 . refine xsA (r0:=l) (by simp [xSG,h]) ?_ hl
   rw [hg,show decide ((i:Int)<(b:Int))=false by simp;omega,xag]
theorem xIA {N:Nat} (hN:N<=2 ^ 60) {ok:α->Prop} (w:Nat) (hw:w<=2 ^ 61) {p:Nat×Nat×List α->Option ((Nat×Nat×List α)⊕(Nat×List α))} {F:Nat->Nat->List α->Option (List α)} (q:∀ a b l l',b<=N->F a b l=some l'->p (a,b,l)=some (.inl (b,b+w,l'))) (O:∀ a b l,b<=N->F a b l=none->p (a,b,l)=none) (Q:∀ a b l,¬ b<=N->p (a,b,l)=some (.inr (a,l)))
  {G:Int->Int->List AV->Option (List AV)} (hF:∀ (a b:Nat) (l r:List α),a<=b->b=a+w->b<=N->LOk N ok l->F a b l=some r->G a b (List.map enc l)=some (List.map enc r)/\LOk N ok r)
  {g:Int×Int×List AV->Option ((Int×Int×List AV)⊕(Int×List AV))}
  (hg:∀ (a b:Int) (xs:List AV),g (a,b,xs)=br (decide (b<=(N:Int))) (br (G a b xs).isSome (some (.inl (b,IntKind.i64.wrap (b+(w:Int)),(G a b xs).getD []))) none) (some (.inr (a,xs))))
  {l l':List α} {a a':Nat} (hl:LOk N ok l) (hr:Iter p (a,a+w,l)=some (a',l')) (ha:a<=N):Iter g ((a:Int),((a+w:Nat):Int),List.map enc l)=some ((a':Int),List.map enc l')/\a'<=N/\N<a'+w/\LOk N ok l':=by
 refine xkM (I:=fun s=>s.1<=N/\s.2.1=s.1+w/\LOk N ok s.2.2) (J:=fun r=>r.1<=N/\N<r.1+w/\LOk N ok r.2) (e:=fun (s:Nat×Nat×List α)=>((s.1:Int),(s.2.1:Int),List.map enc s.2.2)) (f:=fun (r:Nat×List α)=>((r.1:Int),List.map enc r.2)) ?_ (s:=(a,a+w,l)) ⟨ha,rfl,hl⟩ hr
 rintro ⟨a,b,l⟩ ⟨h1,h2,hl⟩;dsimp only at h1 h2 hl;by_cases h:b<=N
 . cases hs:F a b l with
   | none=>exact xgc (O _ _ _ h hs)
   | some l1 =>
    obtain ⟨e1,e2⟩:=hF a b l l1 (by omega) h2 h hl hs
    refine xsO (s0:=(b,b+w,l1)) (q _ _ _ _ h hs) ?_ ⟨h,rfl,e2⟩;rw [hg,show decide ((b:Int)<=(N:Int))=true by simp [h],xaj,e1,w64 (x:=(b:Int)+(w:Int)) (n:=b+w) (by omega) (by omega)]
    rfl
 . refine xsA (r0:=(a,l)) (Q _ _ _ h) ?_ ⟨h1,by dsimp only;omega,hl⟩
   rw [hg,show decide ((b:Int)<=(N:Int))=false by simp;omega,xag]
end
end Go.Sim.M
end
noncomputable section
set_option maxRecDepth 100000
namespace Go.Sim.M
open Go.RowKit Go.Sim.Srt
def okEA (x:AV):Bool:=xTm (Sh.list 3) (x.cells.getD 0 AV.top)
def ldEA (x:AV):AV:=AV.list 3 (x.cells.getD 0 AV.top).toList
abbrev encA:Row->AV:=encR
def xS1 (x y:AV):Bool:=(xgl (x.cells.getD 0 AV.top).toList (y.cells.getD 0 AV.top).toList).isSome
def xS2 (x y:AV):Int:=(xgl (x.cells.getD 0 AV.top).toList (y.cells.getD 0 AV.top).toList).getD 0
theorem ceA (x:Row):(encA x).cells.getD 0 AV.top=encA x:=rfl
theorem shA (x:Row):xTm (Sh.list 3) (encA x)=true:=rfl
theorem tlA (x:Row):(encA x).toList=x.map encV:=rfl
theorem heA (a:Row):okEA (encA a)=true:=rfl
theorem hdA (a:Row):ldEA (encA a)=encA a:=rfl
section
variable {N : Nat} (hN : N <= 2 ^ 60) {ok : Row -> Prop} {c : Row -> Row -> Int} (hc : ∀ x y, ok x -> ok y -> xS1 (encA x) (encA y) = true /\ xS2 (encA x) (encA y) = c x y)
include hN
include hc
theorem xRT (a b:Nat) (ha:a<=N) (hb:b<=N) {l r:List Row} (hl:LOk N ok l) (hr:xSB c a b l=some r):xbL N a b (List.map encA l)=some (List.map encA r)/\LOk N ok r:=by
 obtain ⟨e1,e2⟩:=xIz (enc:=encA) hN (c:=c) (ok:=ok) a b hb (gi:=fun i=>xb9 N a b i) (fun i l r hl hr=>xKi (okE:=okEA) (ldE:=ldEA) heA hdA hN (P:=xS1) (V:=xS2) hc a (fun j xs=>rfl) hl hr) (g:=xb8 N a b) (fun i xs=>rfl) hl hr
 refine ⟨?_,e2⟩;unfold xbL xfL;rw [w64 (x:=(a:Int)+1) (n:=a+1) (by omega) (by omega),e1];rfl
theorem xOJ (q:N<20) {l r:List Row} (hl:LOk N ok l) (hr:xSB c 0 N l=some r):xhi N N (List.map encA l)=some (List.map encA r)/\LOk N ok r:=by
 obtain ⟨e1,e2⟩:=xRT hN hc 0 N (by omega) (zd _) hl hr
 have e1:xbL N 0 N (List.map encA l)=_:=e1;have q0:Iter (xcp N N 20) ((0:Int),(20:Int),List.map encA l)=some ((0:Int),List.map encA l):=by
  refine xam ?_;have h1:¬ (20:Int)<=(N:Int):=by omega
  simp only [xcp,xho,h1,zm,xag,sUF]
 have q1:Iter (xdw N N) ((20:Int),List.map encA r)=some (List.map encA r):=by
  refine xam ?_;have h1:¬ (20:Int)<(N:Int):=by omega
  simp only [xdw,xhp,h1,zm,xag,sUF]
 refine ⟨?_,e2⟩;simp only [xhi,xj5,xi6,xi7,xi8,q0,e1,q1,zk,zh,xaj,sUF]
end
theorem xQ0 {N:Nat} (hN:N*24<=140737488355328) (l:List Row) (hl:l.length=N) (hr:∀ x,x∈l->x.length<=4398046511104):∀ (k i:Nat),i+k=N->Iter (xcz (List.map encA l) N) (i,(i:Int),List.map encA (l.take i))=some (N,List.map encA l):=by
 intro k;induction k with
 | zero =>
  intro i hi;refine xam ?_;have:¬ (i:Int)<(N:Int):=by omega
  simp only [xcz,xku,this,zm,xag,sUF];rw [zi (by omega),show i=N by omega]
 | succ k ih =>
  intro i hi;have q:i<l.length:=by omega
  refine xa6 (s':=(i+1,((i+1:Nat):Int),List.map encA (l.take (i+1)))) ?_ (ih (i+1) (by omega))
  have hx:l[i]?=some l[i]:=by simp [q]
  have k1:(i:Int)<(N:Int):=by omega
  have k2:(i:Int)<((List.map encA l).length:Int):=by simp;omega
  have k2':(i:Int)<(l.length:Int):=by omega
  have k3:i<(List.map encA l).length:=by simpa using q
  have k4:=hr l[i] (zo q);have k5:(List.map encA (l.take i)).length=i:=by simp;omega
  have k6:(i+1)*24<=140737488355328:=by omega
  have k7:i+1<=4611686018427387904:=by omega
  have k8:List.map encA (l.take (i+1))=List.map encA (l.take i)++[AV.list 3 (l[i].map encV)]:=by
   rw [List.take_add_one,hx,zx];rfl
  simp only [xcz,xku,k1,k2,k2',k3,q,zn,xaj,Int.natCast_nonneg,zS,Bool.true_and,zN,gR hx,ceA,shA,tlA,za,k4,k5,beq_self_eq_true,k6,k7,w64 (x:=(i:Int)+1) (n:=i+1) (by omega) (by omega),k8,sUF]
theorem xOH {N:Nat} (hN:N*24<=140737488355328) {c:Row->Row->Int} (hc:∀ x y:Row,x.length<=4398046511104->y.length<=4398046511104->xS1 (encA x) (encA y)=true/\xS2 (encA x) (encA y)=c x y) (q:N<20) (l r:List Row) (hl:l.length=N) (ho:∀ x,x∈l->x.length<=4398046511104) (hr:xSB c 0 N l=some r) :
  xov (List.map encA l)=some (List.map encA r):=by
 obtain ⟨e1,e2⟩:=xOJ (N:=N) (by omega) (ok:=fun x=>x.length<=4398046511104) hc q ⟨hl,ho⟩ hr
 have e0:=xQ0 hN l hl ho N 0 (by omega)
 have e0':Iter (xcz (List.map encA l) (N:Int)) (0,(0:Int),[])=some (N,List.map encA l):=e0;have k1:(List.map encA l).length=N:=by simpa using hl
 have k2:(24:Int)*(N:Int)<=281474976710656:=by omega
 have k3:(N:Int)<=4611686018427387904:=by omega
 have k4:0+N<=(List.map encA r).length:=by simp;exact Nat.le_of_eq e2.len.symm
 have k4':N<=r.length:=Nat.le_of_eq e2.len.symm;have k5:List.take N (List.map encA r)=List.map encA r:=zi (by simp;exact Nat.le_of_eq e2.len)
 simp only [xov,xAm,xwT,xt1,xss,xst,xmS,xsu,k1,e0',xrZ,xi0,e1,k2,k3,k4,k4',zn,za,Bool.true_and,zS,xaj,zk,zh,zr,zH,k5,Int.natCast_nonneg,sUF]
 try simp
end Go.Sim.M
end
noncomputable section
set_option maxRecDepth 100000
namespace Go.Sim.M
open Go.RowKit Go.Sim.Srt
theorem xzF (l:List Per) (hl:l.length<=1048576):Iter (xcH (l.map encP) ((l.length:Nat):Int)) ((0:Nat),(0:Int),[])=some ((l.flatMap (fun (f:Per)=>[(f,(1:Int))])).length,(l.flatMap (fun (f:Per)=>[(f,(1:Int))])).map encC):=by
 refine xjJ l (fun (f:Per)=>[(f,(1:Int))]) encC 1 (fun f hf=>?_) (fun n h D hD=>?_) (fun D=>?_)
 . simp
 . have h1:(n:Int)<(l.length:Int):=by omega
   have m1:(D.length+1)*24<=140737488355328:=by omega
   have m2:D.length+1<=4611686018427387904:=by omega
   have gf:(l.map encP).getD n .top=encP l[n]:=xad _ _ _ h;simp only [xcH,xhB,sBU,h,h1,gf,cP0,cP1,lP,sP,sP0,sP1,m1,m2,xSj (n:=n) (by omega)]
   simp [encC]
 . simp only [xcH,xhB,za,zy,zm,xag,sUF]
theorem xKO (l:List Per) (hl:l.length<=1048576):xgM (l.map encP)=xB6 ((l.map fun p=>(p,(1:Int))).map encC):=by
 have h:=xzF l hl;rw [xS3] at h;unfold xgM xqk xo9 xpa xpb xpc;rw [za,h];simp only [sOO,xMa]
theorem xCq (t:Int) (l:List Fc) (hl:l.length<=1048576):Iter (xeS t (l.map encF) ((l.length:Nat):Int)) ((0:Nat),(0:Int),[])=some ((l.flatMap (fun (f:Fc)=>if hasP f.p t=true then [f.r] else [])).length,(l.flatMap (fun (f:Fc)=>if hasP f.p t=true then [f.r] else [])).map encR):=by
 refine xjJ l (fun (f:Fc)=>if hasP f.p t=true then [f.r] else []) encR 1 (fun f hf=>?_) (fun n h D hD=>?_) (fun D=>?_)
 . cases q:(hasP (f).p t)<;>simp [q]
 . have h1:(n:Int)<(l.length:Int):=by omega
   have m1:(D.length+1)*24<=140737488355328:=by omega
   have m2:D.length+1<=4611686018427387904:=by omega
   have gf:(l.map encF).getD n .top=encF l[n]:=xad _ _ _ h;simp only [xeS,xoa,sBU,h,h1,gf,cF0,cF1,cF2,sF0,sF1,sF2,lF,sF12,sF02,xOg,m1,m2,xSj (n:=n) (by omega)]
   cases q:(hasP (l[n]).p t)<;>simp [encR,xaj,xag,encR,q,sUF]
 . simp only [xeS,xoa,za,zy,zm,xag,sUF]
theorem xEr (t:Int) (l:List Fc) (hl:l.length<=1048576):Iter (xg3 (l.map encF) t) ((0:Nat),(0:Int),[])=some ((l.flatMap (fun (f:Fc)=>if hasP f.p t=true then [f.r] else [])).length,(l.flatMap (fun (f:Fc)=>if hasP f.p t=true then [f.r] else [])).map encR):=by
 refine xjJ l (fun (f:Fc)=>if hasP f.p t=true then [f.r] else []) encR 1 (fun f hf=>?_) (fun n h D hD=>?_) (fun D=>?_)
 . cases q:(hasP (f).p t)<;>simp [q]
 . have h1:(n:Int)<(l.length:Int):=by omega
   have m1:(D.length+1)*24<=140737488355328:=by omega
   have m2:D.length+1<=4611686018427387904:=by omega
   have gf:(l.map encF).getD n .top=encF l[n]:=xad _ _ _ h;simp only [xg3,xs6,sBU,h,h1,gf,cF0,cF1,cF2,sF0,sF1,sF2,lF,sF12,sF02,xIi,m1,m2,xSj (n:=n) (by omega)]
   cases q:(hasP (l[n]).p t)<;>simp [encR,xaj,xag,encR,q,sUF]
 . simp only [xg3,xs6,za,zy,zm,xag,sUF]
theorem xC4 (l:List Fc) (hl:l.length<=1048576):Iter (xfv (l.map encF)) ((0:Nat),(0:Int),[])=some ((l.flatMap (fun (f:Fc)=>if pv f.p=true then [f.r] else [])).length,(l.flatMap (fun (f:Fc)=>if pv f.p=true then [f.r] else [])).map encR):=by
 refine xjJ l (fun (f:Fc)=>if pv f.p=true then [f.r] else []) encR 1 (fun f hf=>?_) (fun n h D hD=>?_) (fun D=>?_)
 . cases q:(pv (f).p)<;>simp [q]
 . have h1:(n:Int)<(l.length:Int):=by omega
   have m1:(D.length+1)*24<=140737488355328:=by omega
   have m2:D.length+1<=4611686018427387904:=by omega
   have gf:(l.map encF).getD n .top=encF l[n]:=xad _ _ _ h;simp only [xfv,xpW,sBU,h,h1,gf,cF0,cF1,cF2,sF0,sF1,sF2,lF,sF12,sF02,xlb,m1,m2,xSj (n:=n) (by omega)]
   cases q:(pv (l[n]).p)<;>simp [encR,xaj,xag,encR,q,sUF]
 . simp only [xfv,xpW,za,zy,zm,xag,sUF]
theorem xBY (q:Row) (l:List Fc) (hl:l.length<=1048576) (hr:∀ f,f∈l->f.r.length<=maxLen):Iter (xek (l.map encF) (q.map encV)) ((0:Nat),(0:Int),[])=some ((l.flatMap (fun (f:Fc)=>if cmpR f.r q==0 then [(f.p,(1:Int))] else [])).length,(l.flatMap (fun (f:Fc)=>if cmpR f.r q==0 then [(f.p,(1:Int))] else [])).map encC):=by
 refine xjJ l (fun (f:Fc)=>if cmpR f.r q==0 then [(f.p,(1:Int))] else []) encC 1 (fun f hf=>?_) (fun n h D hD=>?_) (fun D=>?_)
 . cases J:(cmpR (f).r q==0)<;>simp [J]
 . have h1:(n:Int)<(l.length:Int):=by omega
   have m1:(D.length+1)*24<=140737488355328:=by omega
   have m2:D.length+1<=4611686018427387904:=by omega
   have gf:(l.map encF).getD n .top=encF l[n]:=xad _ _ _ h;have hm:=hr l[n] (zo h);simp only [xek,xmA,sBU,h,h1,gf,cF0,cF1,cF2,sF0,sF1,sF2,lF,sF12,sF02,xwN _ _ hm,m1,m2,xSj (n:=n) (by omega)]
   cases J:(cmpR (l[n]).r q==0)<;>simp [encC,xaj,xag,encR,J,sUF]
 . simp only [xek,xmA,za,zy,zm,xag,sUF]
theorem xBZ (q:Row) (l:List Per) (hl:l.length<=1048576):Iter (xc7 (q.map encV) (l.map encP)) ((0:Nat),(0:Int),[])=some ((l.flatMap (fun (f:Per)=>[(⟨q,f⟩:Fc)])).length,(l.flatMap (fun (f:Per)=>[(⟨q,f⟩:Fc)])).map encF):=by
 refine xjJ l (fun (f:Per)=>[(⟨q,f⟩:Fc)]) encF 1 (fun f hf=>?_) (fun n h D hD=>?_) (fun D=>?_)
 . simp
 . have h1:(n:Int)<(l.length:Int):=by omega
   have m1:(D.length+1)*40<=140737488355328:=by omega
   have m2:D.length+1<=4611686018427387904:=by omega
   have gf:(l.map encP).getD n .top=encP l[n]:=xad _ _ _ h;simp only [xc7,xmB,sBU,h,h1,gf,cP0,cP1,lP,sP,sP0,sP1,m1,m2,xSj (n:=n) (by omega)]
   simp [encF]
 . simp only [xc7,xmB,za,zy,zm,xag,sUF]
def xSF (l:List Row):Prop:=l.length<=1048576/\∀ x,x∈l->x.length<=1048576
theorem xSF.perm {l l':List Row} (h:xSF l) (hp:l'.Perm l):xSF l':=⟨by rw [hp.length_eq];exact h.1,fun x hx=>h.2 x (hp.mem_iff.1 hx)⟩
theorem xJ8 {n f:Nat} (h:n<=1048576) (hf:20<=f):n<=2 ^ f:=Nat.le_trans h (Nat.pow_le_pow_right (n:=2) (by omega) hf:2 ^ 20<=2 ^ f)
theorem xPz (x y:Row) (hx:x.length<=4398046511104):xS1 (encA x) (encA y)=true/\xS2 (encA x) (encA y)=cmpR x y:=by
 unfold xS1 xS2;rw [ceA,ceA,tlA,tlA,xGW x y (by unfold maxLen;omega)]
 exact ⟨rfl,rfl⟩
theorem xKk (l:List Row) (h:xSF l) (q:l.length<20):∃ r,xov (l.map encR)=some (r.map encR)/\r.Perm l/\Sorted cmpR r:=by
 obtain ⟨r,e,p,s⟩:=xzI xqb.ord [] l [];simp only [zU,zD,List.length_nil,zH] at e;exact ⟨r,xOH (N:=l.length) (by omega) (c:=cmpR) (fun x y hx hy=>xPz x y hx) q l r rfl (fun x hx=>by have:=h.2 x hx;omega) e,p,s⟩
theorem xL8 (x y:Row) (hx:x.length<=maxLen):xuQ (x.map encV) (y.map encV) []=some (decide (cmpR x y<0)):=by
 have h:Iter (xei (x.map encV) (y.map encV) []) (0:Int)=some (false,false,()):=xam (by
  simp only [xei,xr6,List.length_nil,sUF];rfl)
 unfold xuQ xwG;rw [h,xwN x y hx];rfl
theorem xMS (a b:List Row) (ha:a.length+b.length<=1048576) (Y:∀ x,x∈a->x.length<=1048576) (V:∀ x,x∈b->x.length<=1048576) (sa:Sorted (cmpR) a) (sb:Sorted (cmpR) b) :
  ∀ (n i k:Nat) (D:List Row),(a.length - i)+(b.length - k)=n->i<=a.length->k<=b.length->D.length=i+k ->
   ∃ r,Iter (xbP (List.map encR a) (List.map encR b) []) (D.length,(i:Int),(k:Int),List.map encR D)=some (a.length+b.length,List.map encR (D++r))/\r.Perm (a.drop i++b.drop k)/\Sorted (cmpR) r:=by
 intro n;induction n with
 | zero =>
  intro i k D hn hi hk hD;have h1:¬ (i:Int)<(a.length:Int):=by omega
  have h2:¬ (k:Int)<(b.length:Int):=by omega
  refine ⟨[],xam ?_,?_,by simp [Sorted]⟩
  . simp only [xbP,xeN,xdn,xdo,xdp,xd2,xd3,xd4,xd5,  za,xaO,h1,h2,zm,zT,if_false,zD,sUF];rw [show D.length=a.length+b.length by omega]
  . rw [zq (by omega),zq (by omega)];exact List.Perm.refl _
 | succ n ih =>
  intro i k D hn hi hk hD;have W:(List.map encR D).length=D.length:=by simp
  have m1:(D.length+1)*24<=140737488355328:=by omega
  have m2:D.length+1<=4611686018427387904:=by omega
  have snoc:∀ x:Row,List.map encR D++[AV.list 3 (x.map encV)]=List.map encR (D++[x]):=fun x=>by simp [encR]
  have wi:=xwV (n:=i) (show i+1<=maxLen by unfold maxLen;omega)
  have wk:=xwV (n:=k) (show k+1<=maxLen by unfold maxLen;omega)
  by_cases J:i<a.length
  . have i1:(i:Int)<(a.length:Int):=by omega
    have i2:((i:Int)==(a.length:Int))=false:=by simp;omega
    have hx:a[i]?=some a[i]:=by simp [J]
    by_cases q:k<b.length
    . have k1:(k:Int)<(b.length:Int):=by omega
      have hy:b[k]?=some b[k]:=by simp [q]
      have e:=xL8 b[k] a[i] (by have:=V b[k] (zo q);unfold maxLen;omega)
      by_cases hc:cmpR b[k] a[i]<0
      . obtain ⟨r,h1,h2,h3⟩:=ih i (k+1) (D++[b[k]]) (by omega) hi (by omega) (by simp;omega)
        refine ⟨b[k]::r,?_,?_,?_⟩
        . refine xa6 (s':=((D++[b[k]]).length,(i:Int),((k+1:Nat):Int),List.map encR (D++[b[k]]))) ?_ (by rw [h1];simp)
          simp only [xbP,xeN,xdn,xdo,xdp,xd2,xd3,xd4,xd5,  za,xaO,i1,i2,k1,J,q,zn,zT,if_false,if_true,zN,gR hx,gR hy,cR0,sR0,e,zk,zh,hc,Int.natCast_nonneg,zS,beq_self_eq_true,m1,m2,snoc,wk,sUF];simp
        . rw [xaR q];exact (h2.cons _).trans List.perm_middle.symm
        . refine zM.2 ⟨fun z hz=>?_,h3⟩
          rcases zG.1 (h2.mem_iff.1 hz) with hz|hz
          . rw [xaR J] at hz;rcases zC.1 hz with rfl|hz
            . omega
            . obtain ⟨j,hj,rfl⟩:=zp.1 hz;have Q:i+1+j<a.length:=by simp at hj;omega
              have:=xbH sa (i:=i) (j:=i+1+j) (by omega) Q
              rw [List.getElem_drop];exact xqb.trans _ _ _ (Int.le_of_lt hc) this
          . obtain ⟨j,hj,rfl⟩:=zp.1 hz;have O:k+1+j<b.length:=by simp at hj;omega
            rw [List.getElem_drop];exact xbH sb (i:=k) (j:=k+1+j) (by omega) O
      . obtain ⟨r,h1,h2,h3⟩:=ih (i+1) k (D++[a[i]]) (by omega) (by omega) hk (by simp;omega)
        refine ⟨a[i]::r,?_,?_,?_⟩
        . refine xa6 (s':=((D++[a[i]]).length,((i+1:Nat):Int),(k:Int),List.map encR (D++[a[i]]))) ?_ (by rw [h1];simp)
          simp only [xbP,xeN,xdn,xdo,xdp,xd2,xd3,xd4,xd5,  za,xaO,i1,i2,k1,J,q,zn,zT,if_false,if_true,zN,gR hx,gR hy,cR0,sR0,e,zk,zh,hc,zm,Int.natCast_nonneg,zS,beq_self_eq_true,m1,m2,snoc,wi,sUF];simp
        . rw [xaR J];exact h2.cons _
        . refine zM.2 ⟨fun z hz=>?_,h3⟩
          have U:cmpR a[i] b[k]<=0:=xqb.ord.le_of_not hc;rcases zG.1 (h2.mem_iff.1 hz) with hz|hz
          . obtain ⟨j,hj,rfl⟩:=zp.1 hz;have Q:i+1+j<a.length:=by simp at hj;omega
            rw [List.getElem_drop];exact xbH sa (i:=i) (j:=i+1+j) (by omega) Q
          . rw [xaR q] at hz;rcases zC.1 hz with rfl|hz
            . exact U
            . obtain ⟨j,hj,rfl⟩:=zp.1 hz;have O:k+1+j<b.length:=by simp at hj;omega
              rw [List.getElem_drop];exact xqb.trans _ _ _ U (xbH sb (i:=k) (j:=k+1+j) (by omega) O)
    . have k1:¬ (k:Int)<(b.length:Int):=by omega
      obtain ⟨r,h1,h2,h3⟩:=ih (i+1) k (D++[a[i]]) (by omega) (by omega) hk (by simp;omega)
      refine ⟨a[i]::r,?_,?_,?_⟩
      . refine xa6 (s':=((D++[a[i]]).length,((i+1:Nat):Int),(k:Int),List.map encR (D++[a[i]]))) ?_ (by rw [h1];simp)
        simp only [xbP,xeN,xdn,xdo,xdp,xd2,xd3,xd4,xd5,  za,xaO,i1,i2,k1,J,zn,zm,zT,if_false,if_true,zN,gR hx,cR0,sR0,Int.natCast_nonneg,zS,beq_self_eq_true,m1,m2,snoc,wi,sUF];simp
      . rw [xaR J];exact h2.cons _
      . refine zM.2 ⟨fun z hz=>?_,h3⟩
        rw [zq (show b.length<=k by omega),zD] at h2
        obtain ⟨j,hj,rfl⟩:=zp.1 (h2.mem_iff.1 hz);have Q:i+1+j<a.length:=by simp at hj;omega
        rw [List.getElem_drop];exact xbH sa (i:=i) (j:=i+1+j) (by omega) Q
  . have i1:¬ (i:Int)<(a.length:Int):=by omega
    have q:k<b.length:=by omega
    have k1:(k:Int)<(b.length:Int):=by omega
    have i2:((i:Int)==(a.length:Int))=true:=by simp;omega
    have hy:b[k]?=some b[k]:=by simp [q]
    obtain ⟨r,h1,h2,h3⟩:=ih i (k+1) (D++[b[k]]) (by omega) hi (by omega) (by simp;omega)
    refine ⟨b[k]::r,?_,?_,?_⟩
    . refine xa6 (s':=((D++[b[k]]).length,(i:Int),((k+1:Nat):Int),List.map encR (D++[b[k]]))) ?_ (by rw [h1];simp)
      simp only [xbP,xeN,xdn,xdo,xdp,xd2,xd3,xd4,xd5,  za,xaO,i1,i2,k1,q,zn,zm,zT,if_false,if_true,zN,gR hy,cR0,sR0,Int.natCast_nonneg,zS,beq_self_eq_true,m1,m2,snoc,wk,sUF];simp
    . rw [xaR q];exact (h2.cons _).trans List.perm_middle.symm
    . refine zM.2 ⟨fun z hz=>?_,h3⟩
      rw [zq (show a.length<=i by omega),zU] at h2
      obtain ⟨j,hj,rfl⟩:=zp.1 (h2.mem_iff.1 hz);have O:k+1+j<b.length:=by simp at hj;omega
      rw [List.getElem_drop];exact xbH sb (i:=k) (j:=k+1+j) (by omega) O
theorem xMT (a b:List Row) (ha:a.length+b.length<=1048576) (J:∀ x,x∈a->x.length<=1048576) (q:∀ x,x∈b->x.length<=1048576) (sa:Sorted cmpR a) (sb:Sorted cmpR b) :
  ∃ r,xzZ (a.map encR) (b.map encR) []=some (r.map encR)/\r.Perm (a++b)/\Sorted cmpR r:=by
 obtain ⟨r,h1,h2,h3⟩:=xMS a b ha J q sa sb _ 0 0 [] rfl (zQ _) (zQ _) rfl;simp only [zr,zU] at h1 h2;have h1':Iter (xbP (a.map encR) (b.map encR) []) (0,(0:Int),(0:Int),[])=some (r.length,r.map encR):=by
  rw [h2.length_eq,z8];exact h1
 refine ⟨r,?_,h2,h3⟩;unfold xzZ xwH;simp only [xuR,xuS,xuT,xuU,h1',sOO,sUF]
theorem xNf:∀ (f:Nat) (l:List Row),l.length<=2 ^ f->xSF l->∃ r,xcF (f+1) (List.map encR l) []=some (List.map encR r)/\r.Perm l/\Sorted (cmpR) r:=by
 intro f;induction f with
 | zero =>
  intro l hl hs;match l,hl with
  | [],_=>exact ⟨[],by simp [xcF,xcO,xgj,xaO,sUF],List.Perm.refl _,by simp [Sorted]⟩
  | [x],_ =>
   have hx:=hs.2 x (by simp)
   refine ⟨[x],?_,List.Perm.refl _,by simp [Sorted]⟩
   have m1:x.length*32<=140737488355328:=by omega
   have m2:x.length<=4611686018427387904:=by omega
   show xcO (xcF 0) (List.map encR [x]) []=_;simp [xcO,xgj,xnl,xnm,xg0,xnn,  xaO,xTm,encR,m1,m2,AV.toList,AV.cells,sUF];exact zi (by simp)
 | succ f ih =>
  intro l hl hs;by_cases h2:l.length<=1
  . match l,h2 with
    | [],_=>exact ⟨[],by show xcO (xcF (f+1)) (List.map encR []) []=_;simp [xcO,xgj,xaO,sUF],List.Perm.refl _,by simp [Sorted]⟩
    | [x],_ =>
     have hx:=hs.2 x (by simp)
     refine ⟨[x],?_,List.Perm.refl _,by simp [Sorted]⟩
     have m1:x.length*32<=140737488355328:=by omega
     have m2:x.length<=4611686018427387904:=by omega
     show xcO (xcF (f+1)) (List.map encR [x]) []=_;simp [xcO,xgj,xnl,xnm,xg0,xnn,  xaO,xTm,encR,m1,m2,AV.toList,AV.cells,sUF];exact zi (by simp)
  . have hp:2 ^ (f+1)=2*2 ^ f:=by rw [Nat.pow_succ];omega
    have q:=hs.1;obtain ⟨m,hm⟩:∃ m,m=l.length / 2:=⟨_,rfl⟩;have st:xSF (l.take m):=⟨by simp;omega,fun x hx=>hs.2 x (List.mem_of_mem_take hx)⟩
    have sd:xSF (l.drop m):=⟨by simp;omega,fun x hx=>hs.2 x (List.mem_of_mem_drop hx)⟩
    obtain ⟨r1,e1,p1,s1⟩:=ih (l.take m) (by simp;omega) st
    obtain ⟨r2,e2,p2,s2⟩:=ih (l.drop m) (by simp;omega) sd
    have l1:=p1.length_eq;have l2:=p2.length_eq;simp only [zt,y1] at l1 l2;obtain ⟨r,a1,a3,a4⟩:=xMT r1 r2 (by omega) (fun x hx=>st.2 x (p1.mem_iff.1 hx)) (fun x hx=>sd.2 x (p2.mem_iff.1 hx)) s1 s2
    refine ⟨r,?_,a3.trans ((p1.append p2).trans (by rw [List.take_append_drop])),a4⟩
    have w:IntKind.i64.wrap ((l.length:Int).tdiv 2)=(m:Int):=by
     rw [Int.tdiv_eq_ediv_of_nonneg (by omega)]
     exact w64 (by omega) (by omega)
    have t1:List.take m (List.map encR l)=List.map encR (l.take m):=by simp
    have t2:List.take (l.length - m) (List.drop m (List.map encR l))=List.map encR (l.drop m):=by
     rw [zi (by simp)];simp
    have d0:((l.length:Int)==0)=false:=by simp;intro h;subst h;simp at h2
    have d1:((l.length:Int)==1)=false:=by simp;omega
    have d2:(m:Int)<=(l.length:Int):=by omega
    show xcO (xcF (f+1)) (List.map encR l) []=_;simp only [xcO,xgj,xnl,xnm,xg0,xnn,  za,d0,d1,xag,w,zN,Nat.sub_zero,zr,t1,t2,e1,e2,zk,zh,xaj,d2,zn,Int.natCast_nonneg,zS,a1,sUF]
theorem xB0 (l:List Row) (h:xSF l):∃ r,xiL (l.map encR)=some (r.map encR)/\r.Perm l/\Sorted cmpR r:=by
 obtain ⟨r,e,p,s⟩:=(fun F (hF:20<=F)=>xNf F l (xJ8 h.1 hF) h) 999 (by decide)
 refine ⟨r,?_,p,s⟩;unfold xiL xzY;rw [e];rfl
deriving instance DecidableEq for Fc
theorem xFT {α:Type} [DecidableEq α] {step:Int->Option (Int⊕(Bool×Bool×Unit))} (a b:List α) (hl:a.length=b.length)
  (hs:∀ (n:Nat) (h1:n<a.length) (h2:n<b.length),step (n:Int)=if a[n]=b[n] then some (.inl ((n+1:Nat):Int)) else some (.inr (true,false,())))
  (he:step (a.length:Int)=some (.inr (false,false,()))):Iter step (0:Int)=some (if a=b then (false,false,()) else (true,false,())):=by
 have key:∀ d n:Nat,n+d=a.length->Iter step (n:Int)=some (if a.drop n=b.drop n then (false,false,()) else (true,false,())):=by
  intro d;induction d with
  | zero =>
   intro n h;have:n=a.length:=by omega
   subst this;rw [zq (zd _),zq (by omega)]
   exact xam he
  | succ d ih =>
   intro n h;have h1:n<a.length:=by omega
   have h2:n<b.length:=by omega
   have:=hs n h1 h2;have e:a.drop n=b.drop n↔a[n]=b[n]/\a.drop (n+1)=b.drop (n+1):=by rw [xaR h1,xaR h2,List.cons.injEq]
   by_cases hc:a[n]=b[n]
   . rw [if_pos hc] at this;rw [xaM this,ih (n+1) (by omega)]
     by_cases hr:a.drop (n+1)=b.drop (n+1)
     . rw [if_pos hr,if_pos (e.2 ⟨hc,hr⟩)]
     . rw [if_neg hr,if_neg fun h=>hr (e.1 h).2]
   . rw [if_neg hc] at this;rw [xam this,if_neg fun h=>hc (e.1 h).1]
 have:=key a.length 0 (by omega)
 simpa using this
theorem cV0 (v:Val):((encV v).cells.getD 0 .top).toInt=v.k:=rfl
theorem cV1 (v:Val):((encV v).cells.getD 1 .top).toInt=v.i:=rfl
theorem cV2 (v:Val):((encV v).cells.getD 2 .top).toStr=v.t:=rfl
theorem lV (v:Val):((encV v).cells.length==3)=true:=rfl
theorem sV (v:Val):xTt [Sh.int .i64,Sh.int .i64,Sh.str] (encV v).cells 0=true:=rfl
theorem xQ2 (x y:Per):(x.1==y.1&&x.2==y.2)=decide (x=y):=by
 cases x;cases y;simp [Bool.decide_and,Bool.beq_eq_decide_eq]
theorem cmp0 (x y:Row):(cmpR x y==0)=decide (x=y):=by
 by_cases h:x=y
 . subst h;simp [xCK]
 . have:cmpR x y≠0:=fun e=>h (xkG e)
   simp [h,this]
theorem cmp1 (x y:Row):(cmpR x y != 0)=!decide (x=y):=by rw [<-cmp0];rfl
theorem xQ3 (x y:Fc):x=y↔x.r=y.r/\x.p=y.p:=by cases x;cases y;simp
theorem xAo (a b:List Fc) (hl:a.length=b.length) (ha:a.length<=1048576) (hr:∀ f,f∈a->f.r.length<=maxLen):Iter (xce (a.map encF) (b.map encF)) (0:Int)=some (if a=b then (false,false,()) else (true,false,())):=by
 refine xFT a b hl (fun n h h2=>?_) ?_
 . have h1:(n:Int)<(a.length:Int):=by omega
   have h3:(n:Int)<(b.length:Int):=by omega
   have gf:(a.map encF).getD n .top=encF a[n]:=xad _ _ _ h;have gg:(b.map encF).getD n .top=encF b[n]:=xad _ _ _ h2;have hm:=hr a[n] (zo h);simp only [xce,xiV,sBU,h,h1,h2,h3,gf,gg,cF0,cF1,cF2,sF0,sF1,sF2,lF,sF12,sF02,xQ2,xwN _ _ hm,cmp1,xSj (n:=n) (by omega)]
   by_cases hp:a[n].p=b[n].p<;>by_cases hq:a[n].r=b[n].r<;>simp [hp,hq,xQ3,xaj,xag,sUF]
 . simp only [xce,xiV,za,zy,zm,xag,sUF]
theorem xNe (a b:List Fc) (ha:a.length<=1048576) (hr:∀ f,f∈a->f.r.length<=maxLen):xk6 (a.map encF) (b.map encF)=some (decide (a=b)):=by
 unfold xk6 xsm;by_cases hl:a.length=b.length
 . simp only [za,hl,bne_self_eq_false,xag,sUF];rw [xAo a b hl ha hr];by_cases h:a=b<;>simp [h,xaj,xag,sUF]
 . have h:a≠b:=fun e=>hl (by rw [e])
   have h2:((a.length:Int) != (b.length:Int))=true:=by simp;omega
   simp [h,h2,xaj,sUF]
theorem xAT (a b:List Row) (hl:a.length=b.length) (ha:a.length<=1048576) (hr:∀ f,f∈a->f.length<=maxLen):Iter (xct (a.map encR) (b.map encR)) (0:Int)=some (if a=b then (false,false,()) else (true,false,())):=by
 refine xFT a b hl (fun n h h2=>?_) ?_
 . have h1:(n:Int)<(a.length:Int):=by omega
   have h3:(n:Int)<(b.length:Int):=by omega
   have gf:(a.map encR).getD n .top=encR a[n]:=xad _ _ _ h;have gg:(b.map encR).getD n .top=encR b[n]:=xad _ _ _ h2;have hm:=hr a[n] (zo h);simp only [xct,xkr,sBU,h,h1,h2,h3,gf,gg,cR0,sR0,xIp _ _ hm,cmp0,xSj (n:=n) (by omega)]
   by_cases he:a[n]=b[n]<;>simp [he,xaj,xag,xaO,sUF]
 . simp only [xct,xkr,za,zy,zm,xag,sUF]
theorem xJg (a b:List Row) (ha:a.length<=1048576) (hr:∀ f,f∈a->f.length<=maxLen):xg2 (a.map encR) (b.map encR)=some (decide (a=b)):=by
 unfold xg2 xtB;by_cases hl:a.length=b.length
 . simp only [za,hl,bne_self_eq_false,xag,sUF];rw [xAT a b hl ha hr];by_cases h:a=b<;>simp [h,xaj,xag,sUF]
 . have h:a≠b:=fun e=>hl (by rw [e])
   have h2:((a.length:Int) != (b.length:Int))=true:=by simp;omega
   simp [h,h2,xaj,sUF]
def atL (l:List Fc) (t:Int):List Row:=l.flatMap fun f=>if hasP f.p t=true then [f.r] else []
theorem xzp (l:List Fc) (t:Int):(atL l t).length<=l.length:=by
 have:=xgN (g:=fun f:Fc=>if hasP f.p t=true then [f.r] else []) (c:=1) l fun f _=>by split<;>simp
 unfold atL;omega
theorem xwe {l:List Fc} {t:Int} {r:Row} (h:r∈atL l t):∃ f,f∈l/\f.r=r/\hasP f.p t=true:=by
 obtain ⟨f,hf,h⟩:=y3.1 h;split at h
 . rename_i hp;simp only [zv] at h;exact ⟨f,hf,h.symm,hp⟩
 . simp at h
theorem xCJ (l:List Fc) (t:Int) (r:Row):(atL l t).count r=cnt l r t:=by
 induction l with
 | nil=>rfl
 | cons f l ih =>
  have e1:atL (f::l) t=(if hasP f.p t=true then [f.r] else [])++atL l t:=rfl
  have e2:cnt (f::l) r t=cnt l r t+if (decide (f.r=r)&&hasP f.p t)=true then 1 else 0:=List.countP_cons
  rw [e1,List.count_append,ih,e2];by_cases hp:hasP f.p t=true
  . by_cases hr:f.r=r<;>simp [hp,hr]<;>omega
  . simp [hp]
theorem xNK {l l':List Fc} {t t':Int} (h:∀ r,cnt l r t=cnt l' r t'):(atL l t).Perm (atL l' t'):=List.perm_iff_count.2 fun r=>by rw [xCJ,xCJ,h]
def Few (l:List Fc):Prop:=l.length<=1048576/\∀ f,f∈l->f.r.length<=1048576
theorem Few.at {l:List Fc} (h:Few l) (t:Int):xSF (atL l t):=⟨Nat.le_trans (xzp l t) h.1,fun x hx=>by obtain ⟨f,hf,rfl,_⟩:=xwe hx;exact h.2 f hf⟩
theorem xRR (l:List Fc) (t:Int) (h:Few l) (q:l.length<20):∃ r,xe7 (l.map encF) t=some (r.map encR)/\r.Perm (atL l t)/\Sorted cmpR r:=by
 obtain ⟨r,e,p,s⟩:=xKk (atL l t) (h.at t) (by have:=xzp l t;omega)
 refine ⟨r,?_,p,s⟩;have:=xCq t l h.1;unfold xe7 xyD xwg xwh xwi xwj;rw [za,this];simp only [sOO];rw [show (l.flatMap fun f=>if hasP f.p t=true then [f.r] else [])=atL l t from rfl,e]
 simp only [sOO]
theorem xM7 (l:List Fc) (t:Int) (h:Few l):∃ r,xie (l.map encF) t=some (r.map encR)/\r.Perm (atL l t)/\Sorted cmpR r:=by
 obtain ⟨r,e,p,s⟩:=xB0 (atL l t) (h.at t);refine ⟨r,?_,p,s⟩;have:=xEr t l h.1;unfold xie xBX;simp only [xAW,xAX,xAY,xAZ,this,sOO,sUF];rw [show (l.flatMap fun f=>if hasP f.p t=true then [f.r] else [])=atL l t from rfl,e]
 simp only [sOO]
def intV (n:Int):Val:=if -1125899906842624<=n/\n<=1125899906842624 then ⟨1,n,[]⟩ else ⟨0,0,[]⟩
def trip (v:Val):Int×Int×List UInt8:=(v.k,v.i,v.t)
theorem xFS (n:Int):xeR n=some (trip (intV n)):=by
 unfold xeR xBf xrl xwU xBg xy1 intV trip;by_cases h1:-1125899906842624<=n<;>by_cases h2:n<=1125899906842624<;>simp [xaO,h1,h2,sUF]
def atV (q:Row) (i:Int):Val:=if i<0 then ⟨0,0,[]⟩ else q.getD i.toNat ⟨0,0,[]⟩
theorem xQW (q:Row) (i:Int):xCa (q.map encV) i=some (trip (atV q i)):=by
 unfold xCa xCb atV trip;by_cases h1:i<0
 . simp [xaO,h1,sUF]
 . by_cases h2:i>=(q.length:Int)
   . have h3:q.length<=i.toNat:=by omega
     simp [xaO,h1,h2,z7,zz h3,sUF]
   . have h3:i.toNat<q.length:=by omega
     have h4:0<=i:=by omega
     have h5:i<(q.length:Int):=by omega
     simp [xaO,h1,h2,h3,h4,h5,z7,AV.toInt,AV.toStr,sUF]
theorem xQV (q:Row) (i:Int):xqG (q.map encV) i=some (trip (atV q i)):=by
 unfold xqG xBV atV trip;by_cases h1:i<0
 . simp [xaO,h1,sUF]
 . by_cases h2:i>=(q.length:Int)
   . have h3:q.length<=i.toNat:=by omega
     simp [xaO,h1,h2,z7,zz h3,sUF]
   . have h3:i.toNat<q.length:=by omega
     have h4:0<=i:=by omega
     have h5:i<(q.length:Int):=by omega
     simp [xaO,h1,h2,h3,h4,h5,z7,AV.toInt,AV.toStr,sUF]
def pick (q:Row) (ks:List Int):Row:=ks.map (atV q)
theorem xDh (q:Row) (l:List Int) (hl:l.length<=1048576):Iter (xfB (q.map encV) (l.map encN) ((l.length:Nat):Int)) ((0:Nat),(0:Int),[])=some ((l.flatMap (fun (f:Int)=>[atV q f])).length,(l.flatMap (fun (f:Int)=>[atV q f])).map encV):=by
 refine xjJ l (fun (f:Int)=>[atV q f]) encV 1 (fun f hf=>?_) (fun n h D hD=>?_) (fun D=>?_)
 . simp
 . have h1:(n:Int)<(l.length:Int):=by omega
   have m1:(D.length+1)*32<=140737488355328:=by omega
   have m2:D.length+1<=4611686018427387904:=by omega
   have gf:(l.map encN).getD n .top=encN l[n]:=xad _ _ _ h;simp only [xfB,xpY,xot,xou,sBU,h,h1,gf,cN,sN,xQW,trip,m1,m2,xSj (n:=n) (by omega)]
   simp [encV]
 . simp only [xfB,xpY,xot,xou,za,zy,zm,xag,sUF]
theorem xEj (q:Row) (ks:List Int) (hk:ks.length<=1048576):xdJ (q.map encV) (ks.map encN)=some ((pick q ks).length,(pick q ks).map encV):=by
 have e:=xDh q ks hk;rw [xS3] at e;have b1:(32:Int)*(ks.length:Int)<=281474976710656:=by omega
 have b2:(ks.length:Int)<=4611686018427387904:=by omega
 unfold xdJ xAl;simp only [xy0,za,e,b1,b2,zn,zS,xaj,zk,zh,pick,sUF]
def sumI:List Val->Int
 | []=>0
 | v::l=>v.i+sumI l
theorem xHu (x:Int) (h1:-1125899906842624<=x) (h2:x<=1125899906842624):andI IntKind.i64 x 1048575=x % 1048576:=by
 have e:((BitVec.ofInt 64 x &&& BitVec.ofInt 64 1048575).toNat:Int)=x % 1048576:=by
  have e1:BitVec.ofInt 64 1048575=BitVec.ofNat 64 (2 ^ 20 - 1):=by decide
  rw [e1,BitVec.toNat_and,BitVec.toNat_ofInt,BitVec.toNat_ofNat];have e2:(2 ^ 20 - 1) % 2 ^ 64=2 ^ 20 - 1:=by decide
  rw [e2,Nat.and_two_pow_sub_one_eq_mod];omega
 show IntKind.i64.wrap _=_;have e':((BitVec.ofInt IntKind.i64.bits x &&& BitVec.ofInt IntKind.i64.bits 1048575).toNat:Int)=x % 1048576:=e;rw [e'];exact xa1 (by omega) (by omega)
theorem fd (x:Int):x.fdiv 1048576=x / 1048576:=Int.fdiv_eq_ediv_of_nonneg x (by decide)
theorem xGT (l:List Val) (hl:l.length<=1048576) (hb:∀ v,v∈l->-1125899906842624<=v.i/\v.i<=1125899906842624) :
  ∀ (d n:Nat) (h w:Int),n+d=l.length->-(1073741824*(n:Int))<=h->h<=1073741824*(n:Int)->0<=w->w<=1048576*(n:Int) ->
   ∃ h' w':Int,Iter (xeG (l.map encV) ((l.length:Nat):Int)) (h,w,(n:Int),0,0,[])=some (h',w',0,0,[])/\h'*1048576+w'=h*1048576+w+sumI (l.drop n) /\
    -1125899906842624<=h'/\h'<=1125899906842624/\0<=w'/\w'<=1099511627776
 | 0,n,h,w,hn,b1,b2,b3,b4=>by
  have:n=l.length:=by omega
  subst this;refine ⟨h,w,xam ?_,?_,by omega,by omega,b3,by omega⟩
  . simp only [xeG,xmP,zy,zm,xag,sUF]
  . rw [zq (zd _)];simp [sumI]
 | d+1,n,h,w,hn,b1,b2,b3,b4=>by
  have hn':n<l.length:=by omega
  have h1:(n:Int)<(l.length:Int):=by omega
  obtain ⟨x1,x2⟩:=hb _ (zo hn');have gf:(l.map encV).getD n .top=encV l[n]:=xad _ _ _ hn';have w1:IntKind.i64.wrap (h+(l[n].i).fdiv 1048576)=h+l[n].i / 1048576:=by rw [fd,xa1 (by omega) (by omega)]
  have w2:IntKind.i64.wrap (w+andI IntKind.i64 l[n].i 1048575)=w+l[n].i % 1048576:=by rw [xHu _ x1 x2,xa1 (by omega) (by omega)]
  obtain ⟨h',w',e,e1,e2⟩:=xGT l hl hb d (n+1) (h+l[n].i / 1048576) (w+l[n].i % 1048576) (by omega) (by omega) (by omega) (by omega) (by omega)
  refine ⟨h',w',?_,?_,e2⟩
  . rw [xaM (s':=(h+l[n].i / 1048576,w+l[n].i % 1048576,((n+1:Nat):Int),0,0,[])) ?_,e];simp only [xeG,xmP,sBU,hn',h1,gf,cV0,cV1,cV2,lV,sV,w1,w2,xSj (n:=n) (by omega)]
  . rw [e1,xaR hn'];simp only [sumI];omega
theorem xQn (l:List Val) (hl:l.length<=1048576) (hb:∀ v,v∈l->-1125899906842624<=v.i/\v.i<=1125899906842624):xvK (l.map encV)=some (trip (intV (sumI l))):=by
 obtain ⟨h,w,e,e1,b1,b2,b3,b4⟩:=xGT l hl hb l.length 0 0 0 (by omega) (by omega) (by omega) (by omega) (by omega)
 have e:Iter (xeG (l.map encV) ((l.length:Nat):Int)) ((0:Int),(0:Int),(0:Int),(0:Int),(0:Int),[])=some (h,w,0,0,[]):=e;simp only [zr] at e1;generalize sumI l=S at e1 |-;have a1:IntKind.i64.wrap (h+w.fdiv 1048576)=h+w / 1048576:=by rw [fd,xa1 (by omega) (by omega)]
 have a2:andI IntKind.i64 w 1048575=w % 1048576:=xHu _ (by omega) (by omega)
 unfold xvK xwR;simp only [xgb,xpX,xvL,xvM,xvN,za,e,xaj,zk,zh,a1,a2,sUF];by_cases c1:h+w / 1048576 < -2147483648
 . have:¬ (-1125899906842624<=S/\S<=1125899906842624):=by omega
   simp [c1,xaj,intV,this,trip,sUF]
 by_cases c2:h+w / 1048576>2147483648
 . have:¬ (-1125899906842624<=S/\S<=1125899906842624):=by omega
   simp [c1,c2,xaj,xag,intV,this,trip,sUF]
 have a3:IntKind.i64.wrap (IntKind.i64.wrap ((h+w / 1048576)*1048576)+w % 1048576)=S:=by
  rw [xa1 (n:=(h+w / 1048576)*1048576) (by omega) (by omega),xa1 (by omega) (by omega)];omega
 simp only [c1,c2,a3,zm,xag,sUF];by_cases c3:S < -1125899906842624
 . have:¬ (-1125899906842624<=S/\S<=1125899906842624):=by omega
   simp [c3,xaj,intV,this,trip,sUF]
 by_cases c4:S>1125899906842624
 . have:¬ (-1125899906842624<=S/\S<=1125899906842624):=by omega
   simp [c3,c4,xaj,xag,intV,this,trip,sUF]
 simp [c3,c4,xaj,xag,xFS,trip,sUF]
def sel (a:Int) (r:Row):List Val:=if (r.getD a.toNat ⟨0,0,[]⟩).k=0 then [] else [r.getD a.toNat ⟨0,0,[]⟩]
def colV (rows:List Row) (a:Int):List Val:=rows.flatMap (sel a)
def ext1 (op:Int) (o v:Val):Val:=if op=3/\cmpV v o<0\/op=4/\cmpV v o>0 then v else o
def extV (op:Int) (o:Val) (l:List Val):Val:=l.foldl (ext1 op) o
def aggV (rows:List Row) (op a:Int):Val :=
 if a<0 then intV rows.length else if op=1 then intV (colV rows a).length else match colV rows a with
  | []=>⟨0,0,[]⟩
  | v::l=>if op=2 then intV (sumI (v::l)) else extV op v l
theorem xBN {α β:Type} (g:α->List β):∀ (l:List α) (D:List β),l.foldl (fun D a=>D++g a) D=D++l.flatMap g
 | [],D=>by simp
 | a::l,D=>by simp only [List.foldl_cons,zR];rw [xBN g l,zw]
theorem xIw (a:Int) (r:Row):(sel a r).length<=1:=by unfold sel;split<;>simp
theorem sV0 (v:Val):xTm (Sh.int .i64) ((encV v).cells.getD 0 .top)=true:=rfl
theorem xP9 (rows:List Row) (op a:Int) (ha:0<=a) (hr:∀ r,r∈rows->a.toNat<r.length) (hl:rows.length<=1048576) :
  Iter (xcg (rows.map encR) ((rows.length:Nat):Int)) ((0:Nat),(0:Int),op,a,(0:Int),(0:Int),[],[])=some ((colV rows a).length,op,a,0,0,[],(colV rows a).map encV):=by
 refine xjw (step:=xcg (rows.map encR) ((rows.length:Nat):Int)) rows (fun (D:List Val) r=>D++sel a r) (fun n D=>(D.length,(n:Int),op,a,(0:Int),(0:Int),[],D.map encV)) (fun n D=>D.length<=n) (fun n h D hD=>?_) rows.length 0 [] (by omega) (by simp) ?_
 . have h1:(n:Int)<(rows.length:Int):=by omega
   have gf:(rows.map encR).getD n .top=encR rows[n]:=xad _ _ _ h;have ha':=hr _ (zo h);have ga:(rows[n].map encV).getD a.toNat .top=encV (rows[n][a.toNat]):=xad _ _ _ ha';have a1:a<(rows[n].length:Int):=by omega
   have gs:sel a rows[n]=if rows[n][a.toNat].k=0 then [] else [rows[n][a.toNat]]:=by
    unfold sel;simp only [z7,ze ha',zh]
   have m1:(D.length+1)*32<=140737488355328:=by omega
   have m2:D.length+1<=4611686018427387904:=by omega
   have:=xIw a rows[n];refine ⟨?_,by simp only [z8];omega⟩
   simp only [xcg,xgo,xj8,xj9,xka,xbA,sBU,h,h1,gf,cR0,sR0,ha,a1,ha',ga,sV0,cV0,cV1,cV2,lV,sV,m1,m2,xSj (n:=n) (by omega)]
   rw [gs];by_cases hk:rows[n][a.toNat].k=0
   . simp [hk,xag,sUF]
   . have hk':(rows[n][a.toNat].k != 0)=true:=by simpa using hk
     simp [hk,hk',xaj,encV,sUF]
 . simp only [xcg,xgo,zy,zm,xag,zr,xBN,zU,sUF];rfl
theorem xQa (L:List Val) (op a:Int) (o:Val) (hl:L.length<=1048576) :
  Iter (xch L.length ((L.length:Nat):Int)) ((0:Int),op,a,(0:Int),(0:Int),[],o.k,o.i,o.t,L.map encV)=some (0,0,[],(extV op o L).k,(extV op o L).i,(extV op o L).t):=by
 refine xjw (step:=xch L.length ((L.length:Nat):Int)) L (ext1 op) (fun n o=>((n:Int),op,a,(0:Int),(0:Int),[],o.k,o.i,o.t,L.map encV)) (fun n D=>True) (fun n h D hD=>⟨?_,trivial⟩) L.length 0 o (by omega) trivial ?_
 . have h1:(n:Int)<(L.length:Int):=by omega
   have gf:(L.map encV).getD n .top=encV L[n]:=xad _ _ _ h;simp only [xch,xgp,xfJ,xfK,xkb,xbi,sBU,h,h1,gf,cV0,cV1,cV2,lV,sV,xD4,xSj (n:=n) (by omega)]
   unfold ext1;by_cases c1:op=3<;>by_cases c2:op=4<;>by_cases c3:cmpV L[n] D<0<;>by_cases c4:cmpV L[n] D>0<;>simp [xaO,c1,c2,c3,c4,sUF]<;>omega
 . simp only [xch,xgp,xfJ,xfK,zy,zm,xag,zr,sUF];rfl
def inR (v:Val):Prop:=-1125899906842624<=v.i/\v.i<=1125899906842624
theorem xFN (a:Int):∀ rows:List Row,(colV rows a).length<=rows.length
 | []=>by simp [colV]
 | r::rows=>by
  have h1:=xFN a rows;have h2:=xIw a r;unfold colV at h1 |-;simp only [zR,z8,zF];omega
theorem xJO {a:Int} {rows:List Row} (hr:∀ r,r∈rows->a.toNat<r.length) (hb:∀ r,r∈rows->∀ v,v∈r->inR v):∀ v,v∈colV rows a->inR v:=by
 intro v hv;unfold colV at hv;obtain ⟨r,h1,h2⟩:=y3.1 hv;have h3:=hr r h1;unfold sel at h2;split at h2
 . simp at h2
 . simp only [zv] at h2;subst h2;simp only [z7,ze h3,zh];exact hb r h1 _ (zo h3)
theorem xMr (op:Int) (v:Val):ext1 op v v=v:=by unfold ext1;split<;>rfl
theorem xPk (rows:List Row) (op a:Int) (hl:rows.length<=1048576) (hr:0<=a->∀ r,r∈rows->a.toNat<r.length) (hb:∀ r,r∈rows->∀ v,v∈r->inR v) :
  xht (rows.map encR) op a=some (trip (aggV rows op a)):=by
 by_cases ha:a<0
 . unfold xht xju;simp [ha,xaj,xFS,aggV,trip,sUF]
 . have e:=xP9 rows op a (by omega) (hr (by omega)) hl
   have hc:=xFN a rows;have q:=xJO (a:=a) (hr (by omega)) hb
   unfold xht xju;simp only [xnH,xnI,xnJ,xdP,xcK,xb6,xdQ,xh0,xnK,xnL,xl2,xl3,xl4,xl5,xl6,xl7,xl8,za,ha,zm,xag,e,xaj,zk,zh,sUF];unfold aggV;simp only [ha,if_false];generalize colV rows a=C at hc q |-;by_cases h1:op=1
   . simp [h1,xaj,xFS,trip,sUF]
   cases C with
   | nil =>
    have e5:(op==1)=false:=by simpa using h1
    simp [h1,e5,xaj,xag,trip,sUF]
   | cons v L =>
    have hL:(v::L).length<=1048576:=by omega
    by_cases h2:op=2
    . have es:=xQn (v::L) hL q;have tt:List.take (v::L).length ((v::L).map encV)=(v::L).map encV:=zi (by simp)
      have e3:(((v::L).length:Int)==0)=false:=by simp;omega
      simp only [h1,h2,e3,es,tt,zr,za,zH,zd,zn,zS,xaj,xag,zk,zh,sUF];simp [trip,xaj,xag,sUF]
    . have es:=xQa (v::L) op a v hL;have e4:extV op v (v::L)=extV op v L:=by unfold extV;rw [List.foldl_cons,xMr]
      rw [e4] at es;have e3:(((v::L).length:Int)==0)=false:=by simp;omega
      have g0:((v::L).map encV).getD 0 .top=encV v:=rfl;have e5:(op==1)=false:=by simpa using h1
      have e6:(op==2)=false:=by simpa using h2
      simp only [e5,e6,e3,g0,cV0,cV1,cV2,lV,sV,h2,if_false,za,zH,zd,zn,zS,xaj,xag,es,zk,zh,sUF];simp [h1,trip,xaj,xag,sUF]
theorem xFR (n:Int):xd1 n=some (trip (intV n)):=by
 unfold xd1 xAR xsE xyH xoL xs4 intV trip;by_cases h1:-1125899906842624<=n<;>by_cases h2:n<=1125899906842624<;>simp [xaO,h1,h2,sUF]
theorem xC3 (q:Row) (l:List Int) (hl:l.length<=1048576):Iter (xfr (q.map encV) (l.map encN)) ((0:Nat),(0:Int),[])=some ((l.flatMap (fun (f:Int)=>[atV q f])).length,(l.flatMap (fun (f:Int)=>[atV q f])).map encV):=by
 refine xjJ l (fun (f:Int)=>[atV q f]) encV 1 (fun f hf=>?_) (fun n h D hD=>?_) (fun D=>?_)
 . simp
 . have h1:(n:Int)<(l.length:Int):=by omega
   have m1:(D.length+1)*32<=140737488355328:=by omega
   have m2:D.length+1<=4611686018427387904:=by omega
   have gf:(l.map encN).getD n .top=encN l[n]:=xad _ _ _ h;simp only [xfr,xpH,xoh,xoi,sBU,h,h1,gf,cN,sN,xQV,trip,m1,m2,xSj (n:=n) (by omega)]
   simp [encV]
 . simp only [xfr,xpH,xoh,xoi,za,zy,zm,xag,sUF]
theorem xOh (q:Row) (ks:List Int) (hk:ks.length<=1048576):xzj (q.map encV) (ks.map encN)=some ((pick q ks).map encV):=by
 have e:=xC3 q ks hk;rw [xS3] at e;have tt:List.take (ks.map (atV q)).length ((ks.map (atV q)).map encV)=(ks.map (atV q)).map encV:=zi (by simp)
 unfold xzj xzX;simp only [xyJ,xyK,xyL,e,xaj,zk,zh,zH,za,zd,zn,zS,zr,sUF];simp only [za] at tt;rw [tt];rfl
theorem tdm (x:Int):∃ q r:Int,x.tdiv 1048576=q/\x.tmod 1048576=r/\x=1048576*q+r/\-1048576<r/\r<1048576:=by
 refine ⟨_,_,rfl,rfl,(Int.mul_tdiv_add_tmod x 1048576).symm,?_,?_⟩
 . have:=Int.lt_tmod_of_pos x (b:=1048576) (by decide);omega
 . have:=Int.tmod_lt_of_pos x (b:=1048576) (by decide);omega
theorem sV1 (v:Val):xTm (Sh.int .i64) ((encV v).cells.getD 1 .top)=true:=rfl
theorem xGP (l:List Val) (hl:l.length<=1048576) (hb:∀ v,v∈l->-1125899906842624<=v.i/\v.i<=1125899906842624) :
  ∀ (d n:Nat) (h w:Int),n+d=l.length->-(1073741824*(n:Int))<=h->h<=1073741824*(n:Int)->-(1048576*(n:Int))<=w->w<=1048576*(n:Int) ->
   ∃ h' w':Int,Iter (xcx (l.map encV)) (h,w,(n:Int),0,0,[])=some (h',w',0,0,[])/\h'*1048576+w'=h*1048576+w+sumI (l.drop n) /\
    -1125899906842624<=h'/\h'<=1125899906842624/\-1099511627776<=w'/\w'<=1099511627776
 | 0,n,h,w,hn,b1,b2,b3,b4=>by
  have:n=l.length:=by omega
  subst this;refine ⟨h,w,xam ?_,?_,by omega,by omega,by omega,by omega⟩
  . simp only [xcx,xiN,za,zy,zm,xag,sUF]
  . rw [zq (zd _)];simp [sumI]
 | d+1,n,h,w,hn,b1,b2,b3,b4=>by
  have hn':n<l.length:=by omega
  have h1:(n:Int)<(l.length:Int):=by omega
  obtain ⟨x1,x2⟩:=hb _ (zo hn');obtain ⟨q,r,eq,er,J,r1,r2⟩:=tdm l[n].i;have gf:(l.map encV).getD n .top=encV l[n]:=xad _ _ _ hn';have w1:IntKind.i64.wrap (h+IntKind.i64.wrap ((l[n].i).tdiv 1048576))=h+q:=by rw [eq,xa1 (n:=q) (by omega) (by omega),xa1 (by omega) (by omega)]
  have w2:IntKind.i64.wrap (w+(l[n].i).tmod 1048576)=w+r:=by rw [er,xa1 (by omega) (by omega)]
  obtain ⟨h',w',e,e1,e2⟩:=xGP l hl hb d (n+1) (h+q) (w+r) (by omega) (by omega) (by omega) (by omega) (by omega)
  refine ⟨h',w',?_,?_,e2⟩
  . rw [xaM (s':=(h+q,w+r,((n+1:Nat):Int),0,0,[])) ?_,e];simp only [xcx,xiN,sBU,hn',h1,gf,cV0,cV1,cV2,lV,sV,sV1,w1,w2,xSj (n:=n) (by omega)]
  . rw [e1,xaR hn'];simp only [sumI];omega
theorem xPx (rows:List Row) (op a:Int) (ha:0<=a) (hr:∀ r,r∈rows->a.toNat<r.length) (hl:rows.length<=1048576) :
  Iter (xcZ (rows.map encR)) ((0:Nat),(0:Int),op,a,(0:Int),(0:Int),[],[])=some ((colV rows a).length,op,a,0,0,[],(colV rows a).map encV):=by
 refine xjw (step:=xcZ (rows.map encR)) rows (fun (D:List Val) r=>D++sel a r) (fun n D=>(D.length,(n:Int),op,a,(0:Int),(0:Int),[],D.map encV)) (fun n D=>D.length<=n) (fun n h D hD=>?_) rows.length 0 [] (by omega) (by simp) ?_
 . have h1:(n:Int)<(rows.length:Int):=by omega
   have gf:(rows.map encR).getD n .top=encR rows[n]:=xad _ _ _ h;have ha':=hr _ (zo h);have ga:(rows[n].map encV).getD a.toNat .top=encV (rows[n][a.toNat]):=xad _ _ _ ha';have a1:a<(rows[n].length:Int):=by omega
   have gs:sel a rows[n]=if rows[n][a.toNat].k=0 then [] else [rows[n][a.toNat]]:=by
    unfold sel;simp only [z7,ze ha',zh]
   have m1:(D.length+1)*32<=140737488355328:=by omega
   have m2:D.length+1<=4611686018427387904:=by omega
   have:=xIw a rows[n];refine ⟨?_,by simp only [z8];omega⟩
   simp only [xcZ,xiM,xno,xnp,xb4,sBU,h,h1,gf,cR0,sR0,ha,a1,ha',ga,sV0,cV0,cV1,cV2,lV,sV,m1,m2,xSj (n:=n) (by omega)]
   rw [gs];by_cases hk:rows[n][a.toNat].k=0
   . simp [hk,xag,sUF]
   . have hk':(rows[n][a.toNat].k != 0)=true:=by simpa using hk
     simp [hk,hk',xaj,encV,sUF]
 . simp only [xcZ,xiM,za,zy,zm,xag,zr,xBN,zU,sUF];rfl
theorem xP0 (v:Val) (L:List Val) (op a:Int) (hl:(v::L).length<=1048576) :
  Iter (xc0 ((v::L).map encV)) ((1:Int),op,a,(0:Int),(0:Int),[],v.k,v.i,v.t)=some (0,0,[],(extV op v L).k,(extV op v L).i,(extV op v L).t):=by
 have key:=xjw (step:=xc0 ((v::L).map encV)) (r:=(0,0,[],(extV op v L).k,(extV op v L).i,(extV op v L).t)) (v::L) (ext1 op) (fun n o=>((n:Int),op,a,(0:Int),(0:Int),[],o.k,o.i,o.t)) (fun n D=>True) (fun n h D hD=>⟨?_,trivial⟩) L.length 1 v (by simp;omega) trivial ?_
 . exact key
 . have h1:(n:Int)<((v::L).length:Int):=by omega
   have gf:((v::L).map encV).getD n .top=encV (v::L)[n]:=xad _ _ _ h;simp only [xc0,xiO,xhg,xhh,xnr,xns,sBU,h,h1,gf,cV0,cV1,cV2,lV,sV,xD3,xSj (n:=n) (by omega)]
   generalize (v::L)[n]=x;unfold ext1;by_cases c1:op=3<;>by_cases c2:op=4<;>by_cases c3:cmpV x D<0<;>by_cases c4:cmpV x D>0<;>simp [xaO,c1,c2,c3,c4,sUF]<;>omega
 . simp only [xc0,xiO,xhg,xhh,za,zy,zm,xag,List.drop_succ_cons,zr,sUF];rfl
theorem xOA (H r S:Int) (e1:H*1048576+r=S) (r1:-1048576<r) (r2:r<1048576) :
  br (decide (H>1099511627776)) (some ((0:Int),(0:Int),([]:List UInt8))) (br (decide (H < -1099511627776)) (some (0,0,[])) (br (xd1 (IntKind.i64.wrap (IntKind.i64.wrap (H*1048576)+r))).isSome (some (((xd1 (IntKind.i64.wrap (IntKind.i64.wrap (H*1048576)+r))).getD (0,0,[])).fst,((xd1 (IntKind.i64.wrap (IntKind.i64.wrap (H*1048576)+r))).getD (0,0,[])).snd.fst,((xd1 (IntKind.i64.wrap (IntKind.i64.wrap (H*1048576)+r))).getD (0,0,[])).snd.snd)) none))=some (trip (intV S)):=by
 by_cases c1:H>1099511627776
 . have:¬ (-1125899906842624<=S/\S<=1125899906842624):=by omega
   simp only [c1,zn,xaj,intV,this,if_false,trip,sUF]
 by_cases c2:H < -1099511627776
 . have:¬ (-1125899906842624<=S/\S<=1125899906842624):=by omega
   simp only [c1,c2,zn,zm,xaj,xag,intV,this,if_false,trip,sUF]
 have a3:IntKind.i64.wrap (IntKind.i64.wrap (H*1048576)+r)=S:=by
  rw [xa1 (n:=H*1048576) (by omega) (by omega),xa1 (by omega) (by omega)];omega
 simp only [c1,c2,a3,zm,xaj,xag,xFR,trip,zk,zh,sUF]
theorem xPj (rows:List Row) (op a:Int) (hl:rows.length<=1048576) (hr:0<=a->∀ r,r∈rows->a.toNat<r.length) (hb:∀ r,r∈rows->∀ v,v∈r->inR v) :
  xkY (rows.map encR) op a=some (trip (aggV rows op a)):=by
 by_cases ha:a<0
 . unfold xkY xmv;simp [ha,xaj,xFR,aggV,trip,sUF]
 . have e:=xPx rows op a (by omega) (hr (by omega)) hl
   have hc:=xFN a rows;have J:=xJO (a:=a) (hr (by omega)) hb
   have tt:List.take (colV rows a).length ((colV rows a).map encV)=(colV rows a).map encV:=zi (by simp)
   unfold xkY xmv;simp only [xkZ,xqI,xqJ,xqK,xfs,xd6,xqL,xqM,xqN,xqO,xpd,xpe,xko,xdq,xpf,xpg,xph,xpi,xpj,xpk,xpl,xpm,xpn,xpo,xpp,za,ha,zm,xag,e,xaj,zk,zh,zr,tt,sUF];unfold aggV;simp only [ha,if_false];generalize colV rows a=C at hc J |-;by_cases h1:op=1
   . simp [h1,xaj,xFR,trip,sUF]
   have e5:(op==1)=false:=by simpa using h1
   cases C with
   | nil=>simp [h1,e5,xaj,xag,trip,sUF]
   | cons v L =>
    have hL:(v::L).length<=1048576:=by omega
    have e3:(((v::L).length:Int)==0)=false:=by simp;omega
    by_cases h2:op=2
    . obtain ⟨h,w,es,e1,b1,b2,b3,b4⟩:=xGP (v::L) hL J (v::L).length 0 0 0 (by omega) (by omega) (by omega) (by omega) (by omega)
      have es:Iter (xcx ((v::L).map encV)) ((0:Int),(0:Int),(0:Int),(0:Int),(0:Int),[])=some (h,w,0,0,[]):=es;simp only [zr] at e1;obtain ⟨q,r,eq,er,Q,r1,r2⟩:=tdm w;have a1:IntKind.i64.wrap (h+IntKind.i64.wrap (w.tdiv 1048576))=h+q:=by rw [eq,xa1 (n:=q) (by omega) (by omega),xa1 (by omega) (by omega)]
      have e6:(op==2)=true:=by simpa using h2
      have O:=xOA (h+q) r (sumI (v::L)) (by omega) r1 r2
      simp only [e5,e6,e3,es,a1,er,za,zH,zd,zn,zS,xaj,xag,zk,zh,h1,h2,if_true,if_false,sUF];exact O
    . have es:=xP0 v L op a hL;have g0:((v::L).map encV).getD 0 .top=encV v:=rfl;have e6:(op==2)=false:=by simpa using h2
      simp only [e5,e6,e3,g0,cV0,cV1,cV2,lV,sV,h2,if_false,za,zH,zd,zn,zS,xaj,xag,es,zk,zh,sUF];simp [h1,trip,xaj,xag,sUF]
def accE {α:Type} (f:α->Int⊕Int):List α->List Int->(Int×List Int)⊕List Int
 | [],D=>.inr D
 | a::l,D=>match f a with
  | .inl e=>.inl (e,D)
  | .inr x=>accE f l (D++[x])
def accO:(Int×List Int)⊕List Int->Bool×(Int×Nat×List AV)×(Nat×List AV)
 | .inl (e,D)=>(true,(e,D.length,D.map encN),(0,[]))
 | .inr D=>(false,(0,0,[]),(D.length,D.map encN))
theorem xzK {α:Type} {step:(Nat×Int×List AV)->Option ((Nat×Int×List AV)⊕(Bool×(Int×Nat×List AV)×(Nat×List AV)))} (l:List α) (f:α->Int⊕Int) (c:Nat)
  (hs:∀ (n:Nat) (h:n<l.length) (D:List Int),D.length<=c+n->step (D.length,(n:Int),D.map encN)=match f l[n] with
   | .inl e=>some (.inr (true,(e,D.length,D.map encN),(0,[])))
   | .inr x=>some (.inl ((D++[x]).length,((n+1:Nat):Int),(D++[x]).map encN)))
  (he:∀ D:List Int,step (D.length,(l.length:Int),D.map encN)=some (.inr (false,(0,0,[]),(D.length,D.map encN)))) :
  ∀ (d n:Nat) (D:List Int),n+d=l.length->D.length<=c+n->Iter step (D.length,(n:Int),D.map encN)=some (accO (accE f (l.drop n) D))
 | 0,n,D,h,hD=>by
  have:n=l.length:=by omega
  subst this;rw [zq (zd _)];exact xam (he D)
 | d+1,n,D,h,hD=>by
  have hn:n<l.length:=by omega
  have h1:=hs n hn D hD;rw [xaR hn];unfold accE;cases hf:f l[n] with
  | inl e=>rw [hf] at h1;exact xam h1
  | inr x =>
   rw [hf] at h1;rw [xaM h1];exact xzK l f c hs he d (n+1) (D++[x]) (by omega) (by simp;omega)
def xSE (kinds:List Int) (k:Int):Int⊕Int:=if k<0 then .inl 6 else if k>=kinds.length then .inl 6 else .inr (kinds.getD k.toNat 0)
def xSD (kinds:List Int) (a:Per):Int⊕Int :=
 if a.1<1\/a.1>4 then .inl 7 else if a.2=-1/\a.1=1 then .inr 1 else if a.2<0\/a.2>=kinds.length then .inl 6
 else if a.1=2/\kinds.getD a.2.toNat 0≠1 then .inl 7 else if a.1=3\/a.1=4 then .inr (kinds.getD a.2.toNat 0) else .inr 1
theorem xRa (l:List AV) (kinds ks:List Int) (hk:ks.length<=1048576):Iter (xcL l (kinds.map encN) (ks.map encN) ((ks.length:Nat):Int)) ((0:Nat),(0:Int),[])=some (accO (accE (xSE kinds) ks [])):=by
 have key:=xzK (step:=xcL l (kinds.map encN) (ks.map encN) ((ks.length:Nat):Int)) ks (xSE kinds) 0 (fun n h D hD=>?_) (fun D=>?_) ks.length 0 [] (by omega) (by simp)
 . exact key
 . have h1:(n:Int)<(ks.length:Int):=by omega
   have gf:(ks.map encN).getD n .top=encN ks[n]:=xad _ _ _ h;have m1:(D.length+1)*8<=140737488355328:=by omega
   have m2:D.length+1<=4611686018427387904:=by omega
   simp only [xcL,xh1,xbU,sBU,h,h1,gf,cN,sN,m1,m2,xSj (n:=n) (by omega)]
   generalize ks[n]=k;unfold xSE;by_cases c1:k<0
   . simp [c1,xaj,sUF]
   by_cases c2:k>=(kinds.length:Int)
   . simp [c1,c2,xaj,xag,sUF]
   have c3:0<=k:=by omega
   have c4:k<(kinds.length:Int):=by omega
   have c5:k.toNat<kinds.length:=by omega
   have gk:(kinds.map encN).getD k.toNat .top=encN kinds[k.toNat]:=xad _ _ _ c5;have gd:kinds.getD k.toNat 0=kinds[k.toNat]:=by rw [z7,ze c5];rfl
   simp only [c1,c2,c3,c4,c5,gk,gd,sBU,cN,sN,if_false];simp [encN]
 . simp only [xcL,xh1,zy,zm,xag,sUF]
theorem xQ9 (l:List AV) (kinds ks:List Int) (hk:ks.length<=1048576):Iter (xdM (kinds.map encN) (ks.map encN) l) ((0:Nat),(0:Int),[])=some (accO (accE (xSE kinds) ks [])):=by
 have key:=xzK (step:=xdM (kinds.map encN) (ks.map encN) l) ks (xSE kinds) 0 (fun n h D hD=>?_) (fun D=>?_) ks.length 0 [] (by omega) (by simp)
 . exact key
 . have h1:(n:Int)<(ks.length:Int):=by omega
   have gf:(ks.map encN).getD n .top=encN ks[n]:=xad _ _ _ h;have m1:(D.length+1)*8<=140737488355328:=by omega
   have m2:D.length+1<=4611686018427387904:=by omega
   simp only [xdM,xk3,xkp,xkq,xcD,sBU,h,h1,gf,cN,sN,m1,m2,xSj (n:=n) (by omega)]
   generalize ks[n]=k;unfold xSE;by_cases c1:k<0
   . simp [c1,xaj,sUF]
   by_cases c2:k>=(kinds.length:Int)
   . simp [c1,c2,xaj,xag,sUF]
   have c3:0<=k:=by omega
   have c4:k<(kinds.length:Int):=by omega
   have c5:k.toNat<kinds.length:=by omega
   have gk:(kinds.map encN).getD k.toNat .top=encN kinds[k.toNat]:=xad _ _ _ c5;have gd:kinds.getD k.toNat 0=kinds[k.toNat]:=by rw [z7,ze c5];rfl
   simp only [c1,c2,c3,c4,c5,gk,gd,sBU,cN,sN,if_false];simp [encN]
 . simp only [xdM,xk3,za,zy,zm,xag,sUF]
theorem xQ8 (kinds:List Int) (L:List Per) (hL:L.length<=1048576) (D0:List Int) (U:D0.length<=1048576):Iter (xcM (kinds.map encN) (L.map encP) ((L.length:Nat):Int)) (D0.length,(0:Int),D0.map encN)=some (accO (accE (xSD kinds) L D0)):=by
 have key:=xzK (step:=xcM (kinds.map encN) (L.map encP) ((L.length:Nat):Int)) L (xSD kinds) D0.length (fun n h D hD=>?_) (fun D=>?_) L.length 0 D0 (by omega) (by omega)
 . exact key
 . have h1:(n:Int)<(L.length:Int):=by omega
   have gf:(L.map encP).getD n .top=encP L[n]:=xad _ _ _ h;have m1:(D.length+1)*8<=140737488355328:=by omega
   have m2:D.length+1<=4611686018427387904:=by omega
   simp only [xcM,xh2,xeK,xgq,xgr,xma,xmb,xsH,xsI,xsJ,xsK,xbe,xcy,sBU,h,h1,gf,cP0,cP1,lP,sP,sP0,sP1,m1,m2,xSj (n:=n) (by omega)]
   generalize L[n]=p;obtain ⟨o,a⟩:=p;unfold xSD;dsimp only;by_cases c1:o<1
   . have e1:o≠1:=by omega
     have e2:o≠2:=by omega
     have e3:o≠3:=by omega
     have e4:o≠4:=by omega
     simp [xaO,c1,e1,e2,e3,e4,sUF]
   by_cases c2:o>4
   . have e1:o≠1:=by omega
     have e2:o≠2:=by omega
     have e3:o≠3:=by omega
     have e4:o≠4:=by omega
     simp [xaO,c1,c2,e1,e2,e3,e4,sUF]
   have Q:¬ (o<1\/o>4):=by omega
   simp only [Q,if_false];by_cases c3:a=-1/\o=1
   . obtain ⟨rfl,rfl⟩:=c3;simp [xaO,encN,sUF]
   simp only [c3,if_false];have ho:o=1\/o=2\/o=3\/o=4:=by omega
   by_cases c4:a<0
   . by_cases c5:a=-1
     . subst c5;rcases ho with rfl|rfl|rfl|rfl
       . simp at c3
       all_goals simp [xaO,sUF]
     . rcases ho with rfl|rfl|rfl|rfl<;>simp [xaO,c4,c5,sUF]
   have c5:¬ a=-1:=by omega
   by_cases c6:a>=(kinds.length:Int)
   . have c7:(kinds.length:Int)<=a:=c6;rcases ho with rfl|rfl|rfl|rfl<;>simp [xaO,c4,c5,c6,c7,sUF]
   have q:¬ (a<0\/a>=(kinds.length:Int)):=by omega
   have c7:0<=a:=by omega
   have c8:a<(kinds.length:Int):=by omega
   have c9:a.toNat<kinds.length:=by omega
   have gk:(kinds.map encN).getD a.toNat .top=encN kinds[a.toNat]:=xad _ _ _ c9;have gd:kinds.getD a.toNat 0=kinds[a.toNat]:=by rw [z7,ze c9];rfl
   simp only [q,if_false,gk,gd,cN,sN];generalize kinds[a.toNat]=x;have J:¬ (kinds.length:Int)<=a:=c6;by_cases O:x=1<;>rcases ho with rfl|rfl|rfl|rfl<;>simp [xaO,c4,c5,c6,c7,c8,c9,J,O,encN,sUF]
 . simp only [xcM,xh2,xeK,xgq,xgr,za,zy,zm,xag,sUF]
theorem xQ7 (kinds:List Int) (L:List Per) (hL:L.length<=1048576) (D0:List Int) (U:D0.length<=1048576):Iter (xdN (kinds.map encN) (L.map encP)) (D0.length,(0:Int),D0.map encN)=some (accO (accE (xSD kinds) L D0)):=by
 have key:=xzK (step:=xdN (kinds.map encN) (L.map encP)) L (xSD kinds) D0.length (fun n h D hD=>?_) (fun D=>?_) L.length 0 D0 (by omega) (by omega)
 . exact key
 . have h1:(n:Int)<(L.length:Int):=by omega
   have gf:(L.map encP).getD n .top=encP L[n]:=xad _ _ _ h;have m1:(D.length+1)*8<=140737488355328:=by omega
   have m2:D.length+1<=4611686018427387904:=by omega
   simp only [xdN,xk4,xiP,xiQ,xej,xiR,xiS,xpr,xps,xv7,xv8,xv9,xwa,xwb,xwc,xbx,xwd,xbv,sBU,h,h1,gf,cP0,cP1,lP,sP,sP0,sP1,m1,m2,xSj (n:=n) (by omega)]
   generalize L[n]=p;obtain ⟨o,a⟩:=p;unfold xSD;dsimp only;by_cases c1:o<1
   . have e1:o≠1:=by omega
     have e2:o≠2:=by omega
     have e3:o≠3:=by omega
     have e4:o≠4:=by omega
     simp [xaO,c1,e1,e2,e3,e4,sUF]
   by_cases c2:o>4
   . have e1:o≠1:=by omega
     have e2:o≠2:=by omega
     have e3:o≠3:=by omega
     have e4:o≠4:=by omega
     simp [xaO,c1,c2,e1,e2,e3,e4,sUF]
   have Q:¬ (o<1\/o>4):=by omega
   simp only [Q,if_false];by_cases c3:a=-1/\o=1
   . obtain ⟨rfl,rfl⟩:=c3;simp [xaO,encN,sUF]
   simp only [c3,if_false];have ho:o=1\/o=2\/o=3\/o=4:=by omega
   by_cases c4:a<0
   . by_cases c5:a=-1
     . subst c5;rcases ho with rfl|rfl|rfl|rfl
       . simp at c3
       all_goals simp [xaO,sUF]
     . rcases ho with rfl|rfl|rfl|rfl<;>simp [xaO,c4,c5,sUF]
   have c5:¬ a=-1:=by omega
   by_cases c6:a>=(kinds.length:Int)
   . have c7:(kinds.length:Int)<=a:=c6;rcases ho with rfl|rfl|rfl|rfl<;>simp [xaO,c4,c5,c6,c7,sUF]
   have q:¬ (a<0\/a>=(kinds.length:Int)):=by omega
   have c7:0<=a:=by omega
   have c8:a<(kinds.length:Int):=by omega
   have c9:a.toNat<kinds.length:=by omega
   have gk:(kinds.map encN).getD a.toNat .top=encN kinds[a.toNat]:=xad _ _ _ c9;have gd:kinds.getD a.toNat 0=kinds[a.toNat]:=by rw [z7,ze c9];rfl
   simp only [q,if_false,gk,gd,cN,sN];generalize kinds[a.toNat]=x;have J:¬ (kinds.length:Int)<=a:=c6;by_cases O:x=1<;>rcases ho with rfl|rfl|rfl|rfl<;>simp [xaO,c4,c5,c6,c7,c8,c9,J,O,encN,sUF]
 . simp only [xdN,xk4,xiP,xiQ,xej,xiR,xiS,za,zy,zm,xag,sUF]
def xUc (kinds ks:List Int) (L:List Per):List Int×Int:=match accE (xSE kinds) ks [] with
 | .inl x=>([],x.1)
 | .inr D=>match accE (xSD kinds) L D with
  | .inl x=>([],x.1)
  | .inr D2=>(D2,0)
theorem xzw {α:Type} {f:α->Int⊕Int}:∀ {l:List α} {D D2:List Int},accE f l D=.inr D2->D2.length=D.length+l.length
 | [],D,D2,h=>by simp only [accE,Sum.inr.injEq] at h;subst h;simp
 | a::l,D,D2,h=>by
  unfold accE at h;cases hf:f a with
  | inl e=>rw [hf] at h;simp at h
  | inr x =>
   rw [hf] at h;have:=xzw h;rw [this];simp;omega
theorem xD1 {α:Type} {f:α->Int⊕Int}:∀ {l:List α} {D D2:List Int},accE f l D=.inr D2->∀ a,a∈l->∃ x,f a=.inr x
 | [],D,D2,h,a,ha=>by simp at ha
 | b::l,D,D2,h,a,ha=>by
  unfold accE at h;cases hf:f b with
  | inl e=>rw [hf] at h;simp at h
  | inr x =>
   rw [hf] at h;rcases zC.1 ha with rfl|ha
   . exact ⟨x,hf⟩
   . exact xD1 h a ha
theorem xD2 {α:Type} {f:α->Int⊕Int} (h0:∀ a e,f a=.inl e->e≠0):∀ {l:List α} {D D2:List Int} {e:Int},accE f l D=.inl (e,D2)->e≠0
 | [],D,D2,e,h=>by simp [accE] at h
 | b::l,D,D2,e,h=>by
  unfold accE at h;cases hf:f b with
  | inl x=>rw [hf] at h;simp only [Sum.inl.injEq,zb] at h;rw [<-h.1];exact h0 _ _ hf
  | inr x=>rw [hf] at h;exact xD2 h0 h
theorem xMN {kinds:List Int} {k e:Int} (h:xSE kinds k=.inl e):e≠0:=by
 unfold xSE at h;split at h
 . simp only [Sum.inl.injEq] at h;omega
 . split at h
   . simp only [Sum.inl.injEq] at h;omega
   . simp at h
theorem xMM {kinds:List Int} {a:Per} {e:Int} (h:xSD kinds a=.inl e):e≠0:=by
 unfold xSD at h;repeat' split at h
 all_goals first|(simp only [Sum.inl.injEq] at h;omega)|simp at h
theorem xN5 {kinds ks:List Int} {L:List Per} (h:(xUc kinds ks L).2=0):(∀ k,k∈ks->0<=k/\k<kinds.length)/\∀ a,a∈L->(1<=a.1/\a.1<=4)/\(a.2=-1/\a.1=1\/0<=a.2/\a.2<kinds.length):=by
 unfold xUc at h;cases hc:accE (xSE kinds) ks [] with
 | inl x=>rw [hc] at h;exact absurd h (xD2 (fun _ _ h=>xMN h) (e:=x.1) (D2:=x.2) hc)
 | inr D =>
  rw [hc] at h;dsimp only at h;cases hd:accE (xSD kinds) L D with
  | inl x=>rw [hd] at h;exact absurd h (xD2 (fun _ _ h=>xMM h) (e:=x.1) (D2:=x.2) hd)
  | inr D2 =>
   refine ⟨fun k hk=>?_,fun a ha=>?_⟩
   . obtain ⟨x,hx⟩:=xD1 hc k hk;unfold xSE at hx;repeat' split at hx
     all_goals first|omega|simp at hx
   . obtain ⟨x,hx⟩:=xD1 hd a ha;unfold xSD at hx;repeat' split at hx
     all_goals first|(exfalso;simp at hx;done)|omega
theorem xI0 (kinds ks:List Int) (L:List Per) (hk:ks.length<=1048576) (hL:L.length<=1048576) :
  xc9 (ks.map encN) (L.map encP) (kinds.map encN)=some ((xUc kinds ks L).1.map encN,(xUc kinds ks L).2):=by
 have e:=xRa (L.map encP) kinds ks hk;unfold xc9 xlG;cases hc:accE (xSE kinds) ks [] with
 | inl x =>
  obtain ⟨er,D⟩:=x;have q:xUc kinds ks L=([],er):=by unfold xUc;rw [hc]
  rw [hc] at e;simp only [xgC,xgD,xgE,xgF,xgG,xgH,xgI,xgJ,xgK,xgL,sBU,e,accO,q,zW]
 | inr D =>
  have hD:=xzw hc;simp only [List.length_nil] at hD;have e2:=xQ8 kinds L hL D (by omega)
  rw [hc] at e;cases hd:accE (xSD kinds) L D with
  | inl x =>
   obtain ⟨er,D2⟩:=x;have q:xUc kinds ks L=([],er):=by unfold xUc;rw [hc];dsimp only;rw [hd]
   rw [hd] at e2;simp only [xgC,xgD,xgE,xgF,xgG,xgH,xgI,xgJ,xgK,xgL,sBU,e,e2,accO,q,zW]
  | inr D2 =>
   have q:xUc kinds ks L=(D2,0):=by unfold xUc;rw [hc];dsimp only;rw [hd]
   rw [hd] at e2;have tt:List.take D2.length (D2.map encN)=D2.map encN:=zi (by simp)
   simp only [xgC,xgD,xgE,xgF,xgG,xgH,xgI,xgJ,xgK,xgL,sBU,e,e2,accO,q,tt,zr,zd]
theorem xwx (kinds ks:List Int) (L:List Per) (hk:ks.length<=1048576) (hL:L.length<=1048576) :
  xbk (kinds.map encN) (ks.map encN) (L.map encP)=some ((xUc kinds ks L).1.map encN,(xUc kinds ks L).2):=by
 have e:=xQ9 (L.map encP) kinds ks hk;unfold xbk xpU;cases hc:accE (xSE kinds) ks [] with
 | inl x =>
  obtain ⟨er,D⟩:=x;have q:xUc kinds ks L=([],er):=by unfold xUc;rw [hc]
  rw [hc] at e;simp only [xjR,xjS,xjT,xjU,xjV,xjW,xjX,xjY,xjZ,xjx,sBU,e,accO,q,zW]
 | inr D =>
  have hD:=xzw hc;simp only [List.length_nil] at hD;have e2:=xQ7 kinds L hL D (by omega)
  rw [hc] at e;cases hd:accE (xSD kinds) L D with
  | inl x =>
   obtain ⟨er,D2⟩:=x;have q:xUc kinds ks L=([],er):=by unfold xUc;rw [hc];dsimp only;rw [hd]
   rw [hd] at e2;simp only [xjR,xjS,xjT,xjU,xjV,xjW,xjX,xjY,xjZ,xjx,sBU,e,e2,accO,q,zW]
  | inr D2 =>
   have q:xUc kinds ks L=(D2,0):=by unfold xUc;rw [hc];dsimp only;rw [hd]
   rw [hd] at e2;have tt:List.take D2.length (D2.map encN)=D2.map encN:=zi (by simp)
   simp only [xjR,xjS,xjT,xjU,xjV,xjW,xjX,xjY,xjZ,xjx,sBU,e,e2,accO,q,tt,zr,zd]
end Go.Sim.M
end
