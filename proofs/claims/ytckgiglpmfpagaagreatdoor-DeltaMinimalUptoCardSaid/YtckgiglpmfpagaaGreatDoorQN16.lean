/- Part 16 of the proof of the law. -/
import Derived.Test.YtckgiglpmfpagaaGreatDoorQN15
import Derived.Test.YtckgiglpmfpagaaGreatDoorCards
import Derived.Test.YtckgiglpmfpagaaGreatDoorTie
import Derived.ChangeMaps5
import Derived.Deep.DeepHandedRow
import Derived.Stop.LaidErr
import Derived.Deep.DeepLaidRun
set_option linter.unusedVariables false
set_option linter.unusedSimpArgs false
set_option linter.unusedSectionVars false
noncomputable section
set_option maxRecDepth 10000
namespace Go.Sim
open Go.RowKit Go.Proofs Go.ChangeShapes Go.WideShapes Go.ChangeAt
theorem xvm {P:Program} {w:World} (h:w.ShapedOpen P) (hg:P.globals.size<P.low):P.low<=w.heap.size:=by
 obtain ⟨o,o₀,h1,_,_⟩:=h.2 (P.low - 1) (by omega) (by unfold Program.low at hg |-;omega)
 rcases zJ (P.low - 1) w.heap.size with h'|h'
 . omega
 . rw [Array.getElem?_eq_none h'] at h1;simp at h1
def xGJ:DataW Unit->List Value
 | .lit (.int k n)=>[.int k n]
 | .agg l=>l.flatMap fun d=>match d with
  | .lit (.int k n)=>[.int k n]
  | .agg l'=>l'.flatMap fun d'=>match d' with
   | .lit (.int k n)=>[.int k n]
   | _=>[]
  | _=>[]
 | _=>[]
def xGH (P:Program):List (String×DataW Unit)->Array Obj->Array Obj
 | [],h=>h
 | x::r,h=>xGH P r (match P.globalNamed x.1 with
  | some g=>h.modify g fun o=>match o with
   | .cells _ t frozen=>.cells (xGJ x.2).toArray t frozen
   | o=>o
  | none=>h)
def xGz (P:Program) (q:List (String×DataW Unit)) (os:Os):World :=
 { World.holding P os ⟨#[],#[],[]⟩ with heap:=xGH P q (World.holding P os ⟨#[],#[],[]⟩).heap }
theorem xBE {H:Type} {enc:TypeId×Value->H} {P:Program} {f:Func} {s:ChangeSpec} {W W':World} {args:Array Value} {ds:List (DataW H)} {q:List MemPlace} {tb:TypeId} (hs:s.vars=[])
  (hW:DataW.Whole enc P f.params.toList s.vars false W args.toList ds [] q) (O:(s.fn H ds).results=[.lit (.bool true)]/\(s.fn H ds).args=ds/\(s.fn H ds).vars=[]) (U:f.resultTypes=#[tb]) (Q:P.underlying tb=some .bool)
  (J:DataW.TrodAll enc P W' 0 (fun b=>decide (b<W.heap.size)) true f.params.toList args.toList ds q) (hb:Below W.heap.size W W'):s.post enc P f false true false false W args (.bool true) W':=by
 refine ⟨ds,[],q,[],q,[],hW,?_,?_,?_,hb.frame _,fun h=>by simp at h⟩
 . simp only [zD,O.1,U];exact trodAll_cons_mk (shut_bool Q _) trodAll_mk0
 . simpa [O.2.1] using J
 . simp only [zD,O.2.2,hs];rfl
theorem xqV {H:Type} {enc:TypeId×Value->H} {P:Program} {W W':World} (hl:laidOutB P=true) (hb:Below W.heap.size W W'):∀ {ts:List TypeId} {vs:List Value} {ds:List (DataW H)} {ps:List MemPlace},(ts.all fun t=>P.readableRec t&&decide (t<P.types.size))=true ->
  DataW.TrodAll enc P W 0 (fun _=>true) true ts vs ds ps->DataW.TrodAll enc P W' 0 (fun b=>decide (b<W.heap.size)) true ts vs ds ps
 | [],vs,ds,ps,_,h=>by
  obtain ⟨rfl,rfl,rfl⟩:=trodAll_nil h;exact trodAll_mk0
 | t::ts,vs,ds,ps,ht,h=>by
  have J:=h.lt;obtain ⟨v,Q,d,O,p,q,rfl,rfl,rfl,hd,hr⟩:=trodAll_cons h;simp only [List.all_cons,zf,zl] at ht;exact trodAll_cons_mk (Below.trod hl ht.1.1 ht.1.2 hd hb fun x hx=>J x (by simp [hx])) (xqV hl hb ht.2 hr)
section
variable {H : Type} {enc : TypeId × Value -> H} {P : Program} {w : World} {base b n : Nat} {sp : Nat -> Bool} {held : Bool} {v : Value} {d : DataW H} {ps : List MemPlace} {t : TypeId}
theorem xBB {T:Ty} (hf:flat P n t=some [T]) (hv:v.cells=#[v]) (hd:DataW.Trod enc P w b sp held t v d ps):∃ a,Rel w (fun _=>False) xHg v a/\OfTy T a/\∀ μ:DataW H->Nat,Meas μ->a.wt<=μ d:=by
 obtain ⟨fuel,q⟩:=hd;rw [hv] at q;obtain ⟨ra,ha,hw⟩:=xrB n t [T] hf fuel _ _ q;cases ha with
 | cons h ht r=>cases r with
  | nil=>exact ⟨_,h,ht,fun μ hμ=>by simpa [AV.wts] using hw μ hμ⟩
theorem xy6 {e:TypeId} {es:List Ty} (ht:P.underlying t=some (.slice e)) (hf:flat P n t=some [.slice es]) (q:Value.okWide P w .any base t v) (hd:DataW.Trod enc P w b sp held t v d ps):∃ a,Rel w (fun _=>False) xHg v a/\OfTy (.slice es) a/\∀ μ:DataW H->Nat,Meas μ->a.wt<=μ d:=by
 obtain ⟨x,len,cap,rfl⟩:=okWide_slice ht q;exact xBB hf rfl hd
theorem xrR {α:Type} {e:α->AV} {wf:α->Prop} {es:List Ty} (hv:∀ x:AV,x.cells.length=es.length->x=xHD x.cells->(∀ j,j<es.length->OfTy (es.getD j .bool) (x.cells.getD j .top))->∃ a,x=e a/\wf a) {x:AV} (h:OfTy (.slice es) x) :
  ∃ l:List α,x=.list es.length (l.map e)/\l.length<=maxLen/\∀ a,a∈l->wf a:=by
 cases h with
 | slice _ xs hn hl hx =>
  have:∀ xs:List AV,(∀ x,x∈xs->∃ a,x=e a/\wf a)->∃ l:List α,xs=l.map e/\∀ a,a∈l->wf a:=by
   intro xs;induction xs with
   | nil=>exact fun _=>⟨[],rfl,fun a h=>by simp at h⟩
   | cons x xs ih =>
    intro h;obtain ⟨a,rfl,ha⟩:=h x (by simp)
    obtain ⟨l,rfl,hl⟩:=ih fun y hy=>h y (by simp [hy])
    exact ⟨a::l,rfl,fun b hb=>(zC.1 hb).elim (fun he=>he▸ha) (fun hb=>hl b hb)⟩
  obtain ⟨l,rfl,hw⟩:=this xs fun x q=>hv x (hl x q).1 (hl x q).2 (fun j hj=>hx x j q hj)
  exact ⟨l,rfl,by simpa using hn,hw⟩
end
end Go.Sim
namespace Go.Sim
open Go.RowKit Go.Proofs Go.ChangeShapes Go.WideShapes Go.ChangeAt Go.Proofs.YtckgiglpmfpagaaGreatDoor
theorem xGO:laidOutB Tryz.prog=true:=by kernel_rfl
theorem xGW:ownKnob Tryz.prog.godebug=none:=by kernel_rfl
theorem xGV:Tryz.prog.globals.size<Tryz.prog.low:=of_decide_eq_true (by kernel_rfl)
noncomputable def xGD:Nat:=(Tryz.prog.globalNamed "internal/strconv.uint64pow10").getD 0
theorem xBF:Rows.laid_internal_strconv_uint64pow10=(Lib.tabData .u64 Lib.pow10Tab:DataW Unit):=by kernel_rfl
theorem xEO {W:World} {r:List (String×DataW Unit)} {a b:String×DataW Unit} (hl:r=[a,b,("internal/strconv.uint64pow10",Rows.laid_internal_strconv_uint64pow10)]) (hp:(r.all fun x=>x.2.handleName?.isNone)=true) (hL:laidMetH Tryz.prog r W) (q:W.ShapedOpen Tryz.prog):xHL W:=by
 rw [MakeChecks.laidMetH_plain _ _ _ hp] at hL;subst hl;refine ⟨q,xvm q xGV,?_⟩;have h:=hL.tail.tail;rw [xBF] at h;exact Lib.tabIs_of_head (g:=xGD) (t:=(Tryz.prog.globals[xGD]?).map (·.type) |>.getD 0) (e:=176) (n:=20) (by kernel_rfl) (by kernel_rfl) (by kernel_rfl) (by kernel_rfl) (by kernel_rfl) (by kernel_rfl) h
def tyV:List Ty:=[.int .i64,.int .i64,.str]
def tyF:List Ty:=[.slice tyV,.int .i64,.int .i64]
theorem xzQ:flat Tryz.prog 9 26=some [.slice tyF]:=by kernel_rfl
def I64 (n:Int):Prop:=(Lit.int .i64 n).wf=true
def M.Fc.wf (x:M.Fc):Prop:=M.Row.wf x.r/\I64 x.p.1/\I64 x.p.2
theorem xC0 (x:AV) (hl:x.cells.length=tyV.length) (he:x=xHD x.cells) (hx:∀ j,j<tyV.length->OfTy (tyV.getD j .bool) (x.cells.getD j .top)):∃ a,x=M.encV a/\M.Val.wf a:=by
 generalize x.cells=cs at *;match cs,hl with
 | [c0,c1,c2],_ =>
  have h0:=hx 0 (by decide)
  have h1:=hx 1 (by decide)
  have h2:=hx 2 (by decide)
  change OfTy (.int .i64) c0 at h0;change OfTy (.int .i64) c1 at h1;change OfTy .str c2 at h2;cases h0 with
  | int _ k hk=>cases h1 with
   | int _ i hi=>cases h2 with
    | str t ht=>exact ⟨⟨k,i,t⟩,he,hk,hi,ht⟩
theorem xwT {x:AV} (h:OfTy (.slice tyV) x):∃ l:M.Row,x=M.encR l/\M.Row.wf l:=by
 obtain ⟨l,rfl,h1,h2⟩:=xrR xC0 h;exact ⟨l,rfl,h1,h2⟩
theorem xCx (x:AV) (hl:x.cells.length=tyF.length) (he:x=xHD x.cells) (hx:∀ j,j<tyF.length->OfTy (tyF.getD j .bool) (x.cells.getD j .top)):∃ a,x=M.encF a/\M.Fc.wf a:=by
 generalize x.cells=cs at *;match cs,hl with
 | [c0,c1,c2],_ =>
  have h0:=hx 0 (by decide)
  have h1:=hx 1 (by decide)
  have h2:=hx 2 (by decide)
  change OfTy (.slice tyV) c0 at h0;change OfTy (.int .i64) c1 at h1;change OfTy (.int .i64) c2 at h2;obtain ⟨l,rfl,hw⟩:=xwT h0;cases h1 with
  | int _ k hk=>cases h2 with
   | int _ i hi=>exact ⟨⟨l,(k,i)⟩,he,hw,hk,hi⟩
section
variable {H : Type} {enc : TypeId × Value -> H} {w : World} {base b : Nat} {sp : Nat -> Bool} {held : Bool} {v : Value} {d : DataW H} {ps : List MemPlace}
theorem xz2 (q:Value.okWide Tryz.prog w .any base 26 v) (hd:DataW.Trod enc Tryz.prog w b sp held 26 v d ps):∃ l:List M.Fc,Rel w (fun _=>False) xHg v (.list 3 (l.map M.encF))/\(∀ μ:DataW H->Nat,Meas μ->(AV.list 3 (l.map M.encF)).wt<=μ d)/\(l.length<=maxLen/\∀ y,y∈l->y.wf):=by
 obtain ⟨a,h,hT,hB⟩:=xy6 Tryz.underlying26 xzQ q hd;obtain ⟨l,rfl,hw⟩:=xrR (es:=tyF) xCx hT;exact ⟨l,h,hB,hw⟩
end
theorem xnH {H:Type}:∀ l:List (DataW H),Rows.uptoBulkAll l=(l.map Rows.uptoBulk).sum
 | []=>rfl
 | d::r=>by simp [Rows.uptoBulkAll,xnH r]
theorem xuR {H:Type}:Meas (Rows.uptoBulk (H:=H)) :=
 ⟨fun l=>by cases l<;>simp [Rows.uptoBulk],fun s=>by simp [Rows.uptoBulk],by simp [Rows.uptoBulk],fun es sp=>by simp only [Rows.uptoBulk,xnH];omega,fun l=>by simp only [Rows.uptoBulk,xnH];omega⟩
end Go.Sim
end
noncomputable section
set_option maxRecDepth 100000
namespace Go.Sim.M
open Go.RowKit Go.Sim.Srt
def Strict {α:Type} (c:α->α->Int) (l:List α):Prop:=l.Pairwise fun x y=>c x y<0
theorem Cm.self {α:Type} {c:α->α->Int} (h:Cm c) (x:α):c x x=0:=by have:=h.swap x x;omega
theorem Strict.nodup {α:Type} {c:α->α->Int} (hc:Cm c) {l:List α} (h:Strict c l):l.Nodup :=
 List.Pairwise.imp (fun {x y} q he=>by subst he;rw [hc.self] at q;omega) h
theorem Strict.sorted {α:Type} {c:α->α->Int} {l:List α} (h:Strict c l):Sorted c l:=List.Pairwise.imp (fun q=>by omega) h
theorem xq3 {α:Type} {c:α->α->Int} (hc:Cm c) (h0:∀ x y,c x y=0->x=y) {l m:List α} (hl:Strict c l) (hm:Strict c m) (h:∀ x,x∈l↔x∈m):l=m :=
 xqM hc h0 ((List.perm_ext_iff_of_nodup (hl.nodup hc) (hm.nodup hc)).2 h) hl.sorted hm.sorted
theorem xBZ {α:Type} {c:α->α->Int} (h0:∀ x y,c x y=0->x=y) {l:List α} (hs:Sorted c l) (hn:l.Nodup):Strict c l :=
 (hs.and hn).imp fun {x y} h=>by
  have:=h.1;have h2:=h.2;by_cases he:c x y=0
  . exact absurd (h0 x y he) h2
  . omega
theorem xyQ (x y:Int):cmpI x y=if x<y then -1 else if y<x then 1 else 0:=rfl
theorem xqd {p q:Per}:cmpP p q<=0↔p.1<q.1\/p.1=q.1/\p.2<=q.2:=by
 unfold cmpP orI;simp only [xyQ];repeat' split
 all_goals omega
theorem xpu (p q:Per):cmpP q p=-(cmpP p q):=by
 unfold cmpP orI;simp only [xyQ];repeat' split
 all_goals omega
theorem xCg:Cm cmpP:=⟨xpu,fun x y z h1 h2=>by rw [xqd] at *;omega⟩
theorem xpv (p q:Per) (h:cmpP p q=0):p=q:=by
 have h1:cmpP p q<=0:=by omega
 have h2:cmpP q p<=0:=by rw [xpu];omega
 rw [xqd] at h1 h2;exact Prod.ext (by omega) (by omega)
theorem xBY {p:Per} {l:List Per} (h:IsSpan (p::l)):IsSpan l:=⟨fun q hq=>h.1 q (by simp [hq]),(zM.1 h.2).2⟩
theorem xtX:∀ {A:List Per},IsSpan A->∀ t,A.countP (hasP · t)=if inL A t=true then 1 else 0
 | [],_,t=>by simp [xkg]
 | p::A,h,t=>by
  have ih:=xtX (xBY h) t;rw [List.countP_cons,ih,xlz];cases hp:hasP p t with
  | false=>simp
  | true=>rw [xrN h hp];simp
theorem xqN {A:List Per} (h:IsSpan A) (h0:∀ t,inL A t=false):A=[]:=xnP h xoM fun t=>by rw [h0,xkg]
theorem xB0 (N:Nat):∀ n:Nat,((List.range n).map fun h=>if h<N then 1 else 0).sum=min n N
 | 0=>by simp
 | n+1=>by rw [List.range_succ,zx,List.sum_append,xB0 N n];simp;split<;>omega
structure IsLevs (N:Int->Nat) (P:List Per):Prop where
 sorted:Sorted cmpP P
 lev:∃ (A:Nat->List Per) (H:Nat),(∀ t,N t<=H)/\(∀ h,IsSpan (A h)/\∀ t,inL (A h) t=decide (h<N t))/\P.Perm ((List.range H).flatMap A)
theorem xmn (A:Nat->List Per) (H:Nat) (h0:∀ h,H<=h->A h=[]):∀ d,(List.range (H+d)).flatMap A=(List.range H).flatMap A
 | 0=>rfl
 | d+1=>by rw [<-Nat.add_assoc,List.range_succ,List.flatMap_append,xmn A H h0 d,zR,h0 (H+d) (by omega)];simp
theorem IsLevs.unique {N:Int->Nat} {P P':List Per} (h:IsLevs N P) (h':IsLevs N P'):P=P':=by
 obtain ⟨A,H,h1,h2,h3⟩:=h.lev;obtain ⟨A',H',O,q,Q⟩:=h'.lev;obtain rfl:A=A':=funext fun k=>xnP (h2 k).1 (q k).1 fun t=>by rw [(h2 k).2,(q k).2]
 have nil:∀ K,(∀ t,N t<=K)->∀ k,K<=k->A k=[]:=fun K hK k hk=>xqN (h2 k).1 fun t=>by rw [(h2 k).2];have:=hK t;simp;omega
 refine xqM xCg xpv (h3.trans (List.Perm.trans (.of_eq ?_) Q.symm)) h.sorted h'.sorted;rcases Nat.le_total H H' with J|J
 . have:=xmn A H (nil H h1) (H' - H);rw [show H+(H' - H)=H' by omega] at this
   exact this.symm
 . have:=xmn A H' (nil H' O) (H - H');rw [show H'+(H - H')=H by omega] at this
   exact this
theorem IsLevs.count {N:Int->Nat} {P:List Per} (h:IsLevs N P) (t:Int):P.countP (hasP · t)=N t:=by
 obtain ⟨A,H,h1,h2,h3⟩:=h.lev;rw [h3.countP_eq,List.countP_flatMap];have:(List.countP (fun x=>hasP x t)∘A)=fun k=>if k<N t then 1 else 0:=funext fun k=>by
  show List.countP (hasP · t) (A k)=_;rw [xtX (h2 k).1,(h2 k).2];simp
 rw [this,xB0];have:=h1 t;omega
theorem IsLevs.valid {N:Int->Nat} {P:List Per} (h:IsLevs N P):∀ p,p∈P->pv p=true:=fun p hp=>by
 obtain ⟨A,H,h1,h2,h3⟩:=h.lev;obtain ⟨k,_,hk⟩:=y3.1 (h3.mem_iff.1 hp);exact (h2 k).1.1 p hk
theorem xDR {A:List Per} {N:Int->Nat} {k:Nat} (hs:IsSpan A) (hN:∀ t,inL A t=decide (k<N t)) {p:Per} (hp:p∈A):(∀ t,p.1<=t->t<p.2->k<N t)/\N (p.1 - 1)<=k/\N p.2<=k:=by
 have hv:=xei.1 (hs.1 p hp);refine ⟨fun t h1 h2=>?_,?_,?_⟩
 . have:inL A t=true:=xgo.2 ⟨p,hp,hs.1 p hp,h1,h2⟩;rw [hN] at this;simpa using this
 . have:inL A (p.1 - 1)=false:=by
    cases hc:inL A (p.1 - 1) with
    | false=>rfl
    | true =>
     obtain ⟨q,hq,Q,h1,h2⟩:=xgo.1 hc;have hne:p≠q:=fun e=>by subst e;omega
     rcases pairwise_mem hs.2 hp hq hne with h|h<;>omega
   rw [hN] at this;simpa using this
 . have:inL A p.2=false:=by
    cases hc:inL A p.2 with
    | false=>rfl
    | true =>
     obtain ⟨q,hq,Q,h1,h2⟩:=xgo.1 hc;have hne:p≠q:=fun e=>by subst e;omega
     rcases pairwise_mem hs.2 hp hq hne with h|h<;>omega
   rw [hN] at this;simpa using this
where
 pairwise_mem {l:List Per} (h:l.Pairwise fun p q=>p.2<q.1) {p q:Per} (hp:p∈l) (hq:q∈l) (hne:p≠q):p.2<q.1\/q.2<p.1:=by
  induction l with
  | nil=>simp at hp
  | cons x l ih =>
   obtain ⟨h1,h2⟩:=zM.1 h;rcases zC.1 hp with e1|O
   . rcases zC.1 hq with e2|J
     . exact absurd (e1.trans e2.symm) hne
     . exact .inl (e1▸h1 q J)
   . rcases zC.1 hq with e2|J
     . exact .inr (e2▸h1 p O)
     . exact ih h2 O J
def cnt (l:List Fc) (r:Row) (t:Int):Nat:=l.countP fun f=>decide (f.r=r)&&hasP f.p t
def xGg (l:List Fc) (R:List Row):Prop:=Strict cmpR R/\∀ r,r∈R↔∃ f,f∈l/\f.r=r/\pv f.p=true
theorem xyR {l:List Fc} {r:Row} {t:Int}:0<cnt l r t↔∃ f,f∈l/\f.r=r/\hasP f.p t=true:=by
 unfold cnt;rw [List.countP_pos_iff];simp
theorem xB5 {p:Per} (h:pv p=true):hasP p p.1=true:=by
 have:=xei.1 h;exact xfT.2 ⟨h,by omega,by omega⟩
theorem xuJ {p:Per} {t:Int} (h:hasP p t=true):pv p=true:=(xfT.1 h).1
theorem xsx {l:List Fc} {r:Row}:(∃ f,f∈l/\f.r=r/\pv f.p=true)↔∃ t,0<cnt l r t:=by
 constructor
 . rintro ⟨f,h1,h2,h3⟩;exact ⟨f.p.1,xyR.2 ⟨f,h1,h2,xB5 h3⟩⟩
 . rintro ⟨t,h⟩;obtain ⟨f,h1,h2,h3⟩:=xyR.1 h;exact ⟨f,h1,h2,xuJ h3⟩
theorem xGg.unique {l l':List Fc} {R R':List Row} (h:xGg l R) (h':xGg l' R') (hc:∀ r t,cnt l r t=cnt l' r t):R=R' :=
 xq3 xpH (fun _ _=>xlO) h.1 h'.1 fun r=>by rw [h.2,h'.2,xsx,xsx];simp only [hc]
def xF7 (R:List Row) (L:Row->List Per):List Fc:=R.flatMap fun r=>(L r).map fun p=>⟨r,p⟩
theorem xte (a b:List Fc) (r:Row) (t:Int):cnt (a++b) r t=cnt a r t+cnt b r t:=List.countP_append
theorem xCl {a b:List Fc} (h:a.Perm b) (r:Row) (t:Int):cnt a r t=cnt b r t:=h.countP_eq _
def xGd (l B:List Fc):Prop:=∃ R L,xGg l R/\(∀ r,r∈R->IsLevs (cnt l r) (L r))/\B=xF7 R L
def xGy (l B:List Fc):Prop:=∃ R L,xGg l R/\(∀ r,r∈R->IsSpan (L r)/\∀ t,inL (L r) t=decide (0<cnt l r t))/\B=xF7 R L
theorem xsa {R:List Row} {L L':Row->List Per} (h:∀ r,r∈R->L r=L' r):xF7 R L=xF7 R L':=by
 unfold xF7;induction R with
 | nil=>rfl
 | cons r R ih=>rw [zR,zR,h r (by simp),ih fun x hx=>h x (by simp [hx])]
theorem xGd.unique {l l' B B':List Fc} (h:xGd l B) (h':xGd l' B') (hc:∀ r t,cnt l r t=cnt l' r t):B=B':=by
 obtain ⟨R,L,h1,h2,rfl⟩:=h;obtain ⟨R',L',J,q,rfl⟩:=h';obtain rfl:=h1.unique J hc;refine xsa fun r hr=>(h2 r hr).unique ?_
 have:=q r hr;rwa [<-show cnt l r=cnt l' r from funext fun t=>hc r t] at this
theorem xGy.unique {l l' B B':List Fc} (h:xGy l B) (h':xGy l' B') (hc:∀ r t,cnt l r t=cnt l' r t):B=B':=by
 obtain ⟨R,L,h1,h2,rfl⟩:=h;obtain ⟨R',L',J,q,rfl⟩:=h';obtain rfl:=h1.unique J hc;exact xsa fun r hr=>xnP (h2 r hr).1 (q r hr).1 fun t=>by rw [(h2 r hr).2,(q r hr).2,hc]
theorem xGg.zero {l:List Fc} {R:List Row} (h:xGg l R) {r:Row} (hr:r∉R) (t:Int):cnt l r t=0:=by
 cases hc:cnt l r t with
 | zero=>rfl
 | succ n=>exact absurd ((h.2 r).2 (xsx.2 ⟨t,by omega⟩)) hr
theorem xuB {R:List Row} {L:Row->List Per} {f:Fc} (h:f∈xF7 R L):f.r∈R/\f.p∈L f.r:=by
 obtain ⟨r,hr,h⟩:=y3.1 h;obtain ⟨p,hp,rfl⟩:=zK.1 h;exact ⟨hr,hp⟩
theorem xGd.valid {l B:List Fc} (h:xGd l B) {f:Fc} (hf:f∈B):pv f.p=true/\∃ g,g∈l/\g.r=f.r:=by
 obtain ⟨R,L,h1,h2,rfl⟩:=h;obtain ⟨a,b⟩:=xuB hf;refine ⟨(h2 _ a).valid _ b,?_⟩;obtain ⟨g,g1,g2,_⟩:=(h1.2 _).1 a;exact ⟨g,g1,g2⟩
def psOf (l:List Fc) (r:Row):List Per:=(l.filter fun f=>decide (f.r=r)&&pv f.p).map (·.p)
theorem xtH (l:List Fc) (r:Row) (t:Int):(psOf l r).countP (hasP · t)=cnt l r t:=by
 unfold psOf cnt;rw [List.countP_map,List.countP_filter];refine List.countP_congr fun f _=>?_
 simp only [Function.comp,zf,zl];constructor
 . rintro ⟨h1,h2,_⟩;exact ⟨h2,h1⟩
 . rintro ⟨h1,h2⟩;exact ⟨h2,h1,xuJ h2⟩
theorem xCH {l:List Fc} {r:Row}:∀ p,p∈psOf l r->pv p=true:=fun p hp=>by
 obtain ⟨f,hf,rfl⟩:=zK.1 hp;have:=List.mem_filter.1 hf;simp only [zf] at this;exact this.2.2
theorem xwv (l:List Fc) (r:Row):(psOf l r).length<=l.length:=by unfold psOf;rw [za];exact List.length_filter_le _ _
theorem xzN {ps:List Per} {t:Int} {k:Nat} (h1:k<ps.countP (hasP · t)) (h2:ps.countP (hasP · (t - 1))<=k):t∈ps.map (·.1):=by
 have:∃ p,p∈ps/\hasP p t=true/\hasP p (t - 1)=false:=by
  refine Classical.byContradiction fun hn=>?_
  have:ps.countP (hasP · t)<=ps.countP (hasP · (t - 1)):=List.countP_mono_left fun p hp h=>by
   cases hc:hasP p (t - 1) with
   | true=>rfl
   | false=>exact absurd ⟨p,hp,h,hc⟩ hn
  omega
 obtain ⟨p,hp,a,b⟩:=this;obtain ⟨hv,x,y⟩:=xfT.1 a;have:¬ p.1<=t - 1:=fun h=>by rw [xfT.2 ⟨hv,h,by omega⟩] at b;cases b
 exact zK.2 ⟨p,hp,by omega⟩
theorem xy3 {ps A:List Per} {k:Nat} (hs:IsSpan A) (hN:∀ t,inL A t=decide (k<ps.countP (hasP · t))):A.length<=ps.length:=by
 have hn:(A.map (·.1)).Nodup:=by
  unfold List.Nodup;rw [List.pairwise_map];refine List.Pairwise.imp_of_mem (fun {p q} hp hq h=>?_) hs.2
  have:=xei.1 (hs.1 p hp);omega
 have:(A.map (·.1)) ⊆ ps.map (·.1):=fun t ht=>by
  obtain ⟨p,hp,rfl⟩:=zK.1 ht;obtain ⟨a,b,_⟩:=xDR (N:=fun t=>ps.countP (hasP · t)) hs hN hp
  have hv:=xei.1 (hs.1 p hp);exact xzN (a p.1 (Int.le_refl _) (by omega)) b
 have:=hn.length_le_of_subset this;simpa using this
theorem IsLevs.len {ps P:List Per} (h:IsLevs (fun t=>ps.countP (hasP · t)) P):P.length<=ps.length*ps.length:=by
 obtain ⟨A,H,h1,h2,h3⟩:=h.lev;have hx:P.length=((List.range ps.length).flatMap A).length:=by
  rw [h3.length_eq];have nil:∀ k,ps.length<=k->A k=[]:=fun k hk=>xqN (h2 k).1 fun t=>by
   rw [(h2 k).2];have:=List.countP_le_length (p:=(hasP · t)) (l:=ps);simp;omega
  have q:∀ k,H<=k->A k=[]:=fun k hk=>xqN (h2 k).1 fun t=>by
   rw [(h2 k).2];have:=h1 t;simp;omega
  rcases Nat.le_total H ps.length with J|J
  . have:=xmn A H q (ps.length - H);rw [show H+(ps.length - H)=ps.length by omega] at this
    rw [this]
  . have:=xmn A ps.length nil (H - ps.length);rw [show ps.length+(H - ps.length)=H by omega] at this
    rw [this]
 rw [hx];have:=xjI (g:=A) (c:=ps.length) (List.range ps.length) fun k _=>xy3 (h2 k).1 (h2 k).2
 simpa using this
theorem xru {L:Row->List Per}:∀ {R:List Row} {l:List Fc},R.Nodup->(∀ r,r∈R->(L r).length<=(psOf l r).length*(psOf l r).length)->(xF7 R L).length<=l.length*l.length
 | [],l,_,_=>by simp [xF7]
 | r::R,l,hn,h=>by
  obtain ⟨n1,n2⟩:=List.nodup_cons.1 hn;have e:xF7 (r::R) L=((L r).map fun p=>(⟨r,p⟩:Fc))++xF7 R L:=by simp [xF7]
  let l2:=l.filter fun f=>!decide (f.r=r)
  have J:∀ r',r'∈R->psOf l2 r'=psOf l r':=fun r' q=>by
   have hne:r'≠r:=fun e=>n1 (e▸q)
   unfold psOf;simp only [l2,List.filter_filter];congr 1;refine List.filter_congr fun f _=>?_
   by_cases hf:f.r=r'
   . have:¬ f.r=r:=fun e=>hne (hf▸e)
     simp [hf,hne]
   . simp [hf]
  have ih:=xru (L:=L) (l:=l2) n2 fun r' q=>by rw [J r' q];exact h r' (by simp [q])
  have h1:=h r (by simp)
  have hl:(psOf l r).length+l2.length<=l.length:=by
   unfold psOf;rw [za];have:=List.length_eq_countP_add_countP (fun f:Fc=>decide (f.r=r)) (l:=l)
   have a1:(l.filter fun f=>decide (f.r=r)&&pv f.p).length<=l.countP fun f=>decide (f.r=r):=by
    rw [<-List.countP_eq_length_filter];exact List.countP_mono_left fun f _ hf=>by simp only [zf] at hf;exact hf.1
   have a2:l2.length=l.countP fun f=>¬ decide (f.r=r)=true:=by
    rw [List.countP_eq_length_filter];simp [l2]
   omega
  rw [e,z8,za];have m1:=Nat.mul_le_mul hl hl;have m2:(psOf l r).length*(psOf l r).length+l2.length*l2.length<=((psOf l r).length+l2.length)*((psOf l r).length+l2.length):=by
   rw [Nat.add_mul,Nat.mul_add,Nat.mul_add];omega
  omega
theorem xGd.len {l B:List Fc} (h:xGd l B):B.length<=l.length*l.length:=by
 obtain ⟨R,L,h1,h2,rfl⟩:=h;refine xru (h1.1.nodup xpH) fun r hr=>?_
 have:=h2 r hr;rw [show cnt l r=fun t=>(psOf l r).countP (hasP · t) from funext fun t=>(xtH l r t).symm] at this
 exact this.len
abbrev Asc (l:List Int):Prop:=l.Pairwise fun x y=>x<y
def insI:List Int->Int->List Int
 | [],n=>[n]
 | x::l,n=>if x<n then x::insI l n else if n<x then n::x::l else x::l
theorem xqy:∀ (l:List Int) (n x:Int),x∈insI l n↔x=n\/x∈l
 | [],n,x=>by simp [insI]
 | y::l,n,x=>by
  unfold insI;split
  . rw [zC,xqy l n x,zC];constructor<;>rintro (h|h|h)<;>simp [h]
  . split
    . simp
    . have:y=n:=by omega
      subst this;simp
theorem xsH:∀ {l:List Int},Asc l->∀ n,Asc (insI l n)
 | [],_,n=>by simp [insI,Asc]
 | y::l,h,n=>by
  obtain ⟨h1,h2⟩:=zM.1 h;unfold insI;split
  . refine zM.2 ⟨fun z hz=>?_,xsH h2 n⟩
    rcases (xqy l n z).1 hz with rfl|hz
    . assumption
    . exact h1 z hz
  . split
    . rename_i hn;refine zM.2 ⟨fun z hz=>?_,h⟩
      rcases zC.1 hz with rfl|hz
      . exact hn
      . have:=h1 z hz;omega
    . exact h
theorem xo2:∀ (l:List Int) (n:Int),(insI l n).length<=l.length+1
 | [],n=>by simp [insI]
 | y::l,n=>by
  unfold insI;have:=xo2 l n;repeat' split
  all_goals simp
  all_goals omega
theorem xsI (n:Int):∀ l:List Int,∃ m,m<=l.length/\(∀ k (h:k<m) (h2:k<l.length),l[k]<n)/\(∀ h:m<l.length,¬ l[m]<n)/\insI l n=l.take m++(if h:m<l.length then (if n<l[m] then n::l.drop m else l.drop m) else [n])
 | []=>⟨0,zd _,fun k h=>by omega,fun h=>by simp at h,by simp [insI]⟩
 | y::l=>by
  by_cases hy:y<n
  . obtain ⟨m,h1,h2,h3,h4⟩:=xsI n l;refine ⟨m+1,by simpa using h1,fun k h hk=>?_,fun h=>?_,?_⟩
    . cases k with
      | zero=>simpa using hy
      | succ k=>simpa using h2 k (by omega) (by simpa using hk)
    . simpa using h3 (by simpa using h)
    . unfold insI;rw [if_pos hy,h4];by_cases hm:m<l.length<;>simp [hm]
  . refine ⟨0,zQ _,fun k h=>by omega,fun _=>by simpa using hy,?_⟩
    unfold insI;rw [if_neg hy];by_cases h:n<y<;>simp [h]
structure StepI (N:Int->Int) (T:Int) (S:List Per):Prop where
 asc:S.Pairwise fun a b=>a.1<b.1
 mem:∀ s,s∈S↔0<=s.1/\s.1<T/\s.2=N s.1/\(s.1=0\/N (s.1 - 1)≠s.2)
 last:0<T->∃ S' f,S=S'++[(f,N (T - 1))]
theorem StepI.nil (N:Int->Int):StepI N 0 []:=⟨List.Pairwise.nil,fun s=>by simp;omega,fun h=>by omega⟩
def putS (S:List Per) (f n:Int):List Per:=match S.getLast? with
 | some s=>if s.2=n then S else S++[(f,n)]
 | none=>S++[(f,n)]
theorem StepI.unique {N:Int->Int} {T:Int} {S S':List Per} (h:StepI N T S) (h':StepI N T S'):S=S' :=
 xq3 xCg xpv (h.asc.imp fun {x y} q=>by
  have h1:cmpP x y<=0:=xqd.2 (.inl q);by_cases h0:cmpP x y=0
  . have:=xpv x y h0;subst this;omega
  . omega) (h'.asc.imp fun {x y} q=>by
  have h1:cmpP x y<=0:=xqd.2 (.inl q);by_cases h0:cmpP x y=0
  . have:=xpv x y h0;subst this;omega
  . omega) fun s=>by rw [h.mem,h'.mem]
theorem StepI.put {N:Int->Int} {T T':Int} {S:List Per} (h:StepI N T S) (h0:0<=T) (q:T<T') (hc:∀ t,T<=t->t<T'->N t=N T):StepI N T' (putS S T (N T)):=by
 rcases Int.lt_or_eq_of_le h0 with hp|hz
 . obtain ⟨S',f,rfl⟩:=h.last hp;unfold putS;rw [List.getLast?_append];simp only [List.getLast?_singleton,Option.some_or];by_cases he:N (T - 1)=N T
   . rw [if_pos he];refine ⟨h.asc,fun s=>?_,fun _=>⟨S',f,by rw [he,hc (T' - 1) (by omega) (by omega)]⟩⟩
     rw [h.mem];constructor
     . rintro ⟨a,b,c,d⟩;exact ⟨a,by omega,c,d⟩
     . rintro ⟨a,b,c,d⟩;refine ⟨a,?_,c,d⟩;rcases Int.lt_or_le s.1 T with hs|hs
       . exact hs
       . exfalso;have e1:=hc s.1 hs b;rcases d with d|d
         . omega
         . rcases Int.lt_or_eq_of_le hs with h2|h2
           . have e2:=hc (s.1 - 1) (by omega) (by omega)
             exact d (by rw [e2,c,e1])
           . rw [<-h2] at d c;exact d (by rw [he,c])
   . rw [if_neg he];refine ⟨?_,fun s=>?_,fun _=>⟨_,T,by rw [hc (T' - 1) (by omega) (by omega)]⟩⟩
     . rw [List.pairwise_append];refine ⟨h.asc,List.pairwise_singleton _ _,fun a ha b hb=>?_⟩
       simp only [zv] at hb;subst hb;exact ((h.mem a).1 ha).2.1
     . rw [zG,h.mem,zv];constructor
       . rintro (⟨a,b,c,d⟩|rfl)
         . exact ⟨a,by omega,c,d⟩
         . exact ⟨h0,q,rfl,.inr he⟩
       . rintro ⟨a,b,c,d⟩;rcases Int.lt_or_le s.1 T with hs|hs
         . exact .inl ⟨a,hs,c,d⟩
         . right;have e1:=hc s.1 hs b;rcases Int.lt_or_eq_of_le hs with h2|h2
           . exfalso;have e2:=hc (s.1 - 1) (by omega) (by omega)
             rcases d with d|d
             . omega
             . exact d (by rw [e2,c,e1])
           . exact Prod.ext h2.symm (by rw [c,e1])
 . subst hz;have hS:S=[]:=by
    rw [List.eq_nil_iff_forall_not_mem];intro s hs;have:=(h.mem s).1 hs;omega
   subst hS;refine ⟨by simp [putS],fun s=>?_,fun _=>⟨[],0,by simp [putS];exact (hc (T' - 1) (by omega) (by omega)).symm⟩⟩
   simp only [putS,List.getLast?_nil,zU,zv];constructor
   . rintro rfl;exact ⟨Int.le_refl _,q,rfl,.inl rfl⟩
   . rintro ⟨a,b,c,d⟩;have e1:=hc s.1 a b;rcases Int.lt_or_eq_of_le a with h2|h2
     . exfalso;have e2:=hc (s.1 - 1) (by omega) (by omega)
       rcases d with d|d
       . omega
       . exact d (by rw [e2,c,e1])
     . exact Prod.ext h2.symm (by rw [c,e1])
theorem xwz (S:List Per) (f n:Int):(putS S f n).length<=S.length+1:=by
 unfold putS;repeat' split
 all_goals simp
def sumC (l:List Cnt) (t:Int):Int:=(l.map fun c=>if hasP c.1 t=true then c.2 else 0).sum
theorem xlx (c:Cnt) (l:List Cnt) (t:Int):sumC (c::l) t=(if hasP c.1 t=true then c.2 else 0)+sumC l t:=by simp [sumC]
theorem xyB (a b:List Cnt) (t:Int):sumC (a++b) t=sumC a t+sumC b t:=by simp [sumC]
theorem xwQ (t:Int):sumC [] t=0:=rfl
theorem xtx {T T':Int}:∀ {l:List Cnt},(∀ c,c∈l->pv c.1=true->¬ (T<c.1.1/\c.1.1<T')/\¬ (T<c.1.2/\c.1.2<T'))->∀ t,T<=t->t<T'->sumC l t=sumC l T
 | [],_,t,_,_=>rfl
 | c::l,h,t,h1,h2=>by
  rw [xlx,xlx,xtx (fun c hc=>h c (by simp [hc])) t h1 h2]
  congr 2;cases hv:pv c.1 with
  | false=>simp [hasP,hv]
  | true =>
   have:=h c (by simp) hv
   simp only [hasP,hv,Bool.true_and,zf,zl,eq_iff_iff];omega
theorem xwP (B:Int) (hB:0<=B) (t:Int):∀ l:List Cnt,(∀ c,c∈l->-B<=c.2/\c.2<=B)->-(B*l.length)<=sumC l t/\sumC l t<=B*l.length
 | [],_=>by simp [xwQ]
 | c::l,h=>by
  have ih:=xwP B hB t l fun c hc=>h c (by simp [hc])
  have hc:=h c (by simp)
  rw [xlx,zF,show B*((l.length+1:Nat):Int)=B*(l.length:Int)+B by rw [Int.natCast_add,Int.mul_add];simp]
  split<;>omega
theorem xva (ps:List Per) (t:Int):sumC (ps.map fun p=>(p,(1:Int))) t=(ps.countP (hasP · t):Nat):=by
 induction ps with
 | nil=>rfl
 | cons p ps ih =>
  rw [zV,xlx,ih,List.countP_cons];split<;>simp_all<;>omega
theorem xEN (l:List Int) (n:Int) (hl:l.length<=1048576) (m:Nat) (hm:m<=l.length) (h1:∀ k (h:k<m) (h2:k<l.length),l[k]<n) (h2:∀ h:m<l.length,¬ l[m]<n) :
  Iter (xck (l.map encN) n) ((0:Nat),(0:Int),[])=some (m,(m:Int),(l.take m).map encN):=by
 refine xjK (fun k=>((k,(k:Int),(l.take k).map encN):Nat×Int×List AV)) m _ (fun k hk=>?_) ?_ m 0 (by omega)
 . have q:k<l.length:=by omega
   have i1:(k:Int)<(l.length:Int):=by omega
   have i2:=h1 k hk q;have m1:(k+1)*8<=140737488355328:=by omega
   have m2:k+1<=4611686018427387904:=by omega
   have tl:(l.take k).length=k:=by rw [zt];omega
   have gf:(l.map encN).getD k .top=encN l[k]:=xaM _ _ _ q;simp only [xck,xfX,sBU,q,i1,i2,gf,cN,sN,tl,m1,m2,xF0 (n:=k) (by omega)]
   rw [List.take_add_one,ze q,zx];rfl
 . by_cases hml:m<l.length
   . have i1:(m:Int)<(l.length:Int):=by omega
     have i2:=h2 hml;have gf:(l.map encN).getD m .top=encN l[m]:=xaM _ _ _ hml;simp only [xck,xfX,sBU,hml,i1,i2,gf,cN,sN]
   . have i1:¬ (m:Int)<(l.length:Int):=by omega
     simp only [xck,xfX,sBU,i1]
theorem xv7 (l:List Int) (hl:l.length<=1048576):∀ (d i:Nat) (D:List Int),i+d=l.length->D.length<=1048576+i ->
  Iter (xcl (l.map encN)) (D.length,(i:Int),D.map encN)=some ((D++l.drop i).length,(D++l.drop i).map encN)
 | 0,i,D,h,hD=>by
  obtain rfl:i=l.length:=by omega
  rw [zq (zd _),zD];refine xaN ?_;simp only [xcl,xhT,za,zy,zm,xaK,sUF]
 | d+1,i,D,h,hD=>by
  have q:i<l.length:=by omega
  have i1:(i:Int)<(l.length:Int):=by omega
  have m1:(D.length+1)*8<=140737488355328:=by omega
  have m2:D.length+1<=4611686018427387904:=by omega
  have gf:(l.map encN).getD i .top=encN l[i]:=xaM _ _ _ q;rw [xaV (s':=((D++[l[i]]).length,((i+1:Nat):Int),(D++[l[i]]).map encN)) ?_,xv7 l hl d (i+1) (D++[l[i]]) (by omega) (by rw [z8];simp;omega),xa7 q,zw]
  . rfl
  . simp only [xcl,xhT,sBU,q,i1,gf,cN,sN,m1,m2,xF0 (n:=i) (by omega)]
    simp [encN]
theorem xuK (l:List Int) (n:Int) (hl:l.length<=1048576):xgy (l.map encN) n=some ((insI l n).map encN):=by
 obtain ⟨m,hm,h1,h2,h3⟩:=xsI n l;have e0:=xEN l n hl m hm h1 h2;have tl:(l.take m).length=m:=by rw [zt];omega
 have e1:=xv7 l hl (l.length - m) m (l.take m++[n]) (by omega) (by rw [z8,tl];simp;omega)
 have e2:=xv7 l hl (l.length - m) m (l.take m) (by omega) (by omega)
 rw [z8,tl,zx] at e1;rw [tl] at e2;have e1:Iter (xcl (l.map encN)) (m+1,(m:Int),(l.take m).map encN++[AV.int .i64 n])=some ((l.take m++[n]++l.drop m).length,(l.take m++[n]++l.drop m).map encN):=e1;have m1:(m+1)*8<=140737488355328:=by omega
 have m2:m+1<=4611686018427387904:=by omega
 rw [h3];unfold xgy xnj xlD;by_cases hml:m<l.length
 . have i1:((m:Int)==(l.length:Int))=false:=by simp;omega
   have i2:(m:Int)<(l.length:Int):=by omega
   have gf:(l.map encN).getD m .top=encN l[m]:=xaM _ _ _ hml;rw [dif_pos hml];by_cases hn:n<l[m]
   . have i3:l[m]>n:=hn;simp only [xbQ,xg5,xg6,xg7,xjq,xg8,xg9,xha,xhb,xhc,xe5,xiX,xe6,xe7,xgz,xgA,e0,zk,zh,za,i1,i2,hml,gf,cN,sN,i3,m1,m2,tl,e1,sBU,sOO,↓reduceIte,zw,List.singleton_append]
   . have i3:¬ l[m]>n:=hn;simp only [xbQ,xg5,xg6,xg7,xjq,xg8,xg9,xha,xhb,xhc,xe5,xiX,xe6,xe7,xgz,xgA,e0,zk,zh,za,i1,i2,hml,gf,cN,sN,i3,e2,sBU,sOO,↓reduceIte]
 . have i1:((m:Int)==(l.length:Int))=true:=by simp;omega
   rw [dif_neg hml];have hd:l.drop m=[]:=zq (by omega)
   rw [hd,zD] at e1;simp only [xbQ,xg5,xg6,xg7,xjq,xg8,xg9,xha,xhb,xhc,xe5,xiX,xe6,xe7,xgz,xgA,e0,zk,zh,za,i1,m1,m2,tl,e1,sBU,sOO]
theorem xoR {α:Type} (l:List α):l=[]\/∃ m a,l=m++[a]:=by
 rcases List.eq_nil_or_concat l with h|⟨m,a,h⟩
 . exact .inl h
 . exact .inr ⟨m,a,by rw [h,List.concat_eq_append]⟩
theorem xzb (S:List Per) (f n:Int) (hS:S.length<=16777216):∃ p,xc7 S.length f n (S.map encP)=some p/\br p.1 p.2.1.1 p.2.2.1=(putS S f n).length/\br p.1 p.2.1.2 p.2.2.2=(putS S f n).map encP:=by
 have m1:(S.length+1)*16<=140737488355328:=by omega
 have m2:S.length+1<=4611686018427387904:=by omega
 rcases xoR S with rfl|⟨S',s,rfl⟩
 . refine ⟨(false,(0,[]),(1,[encP (f,n)])),?_,rfl,rfl⟩;unfold xc7 xja xgV;simp [xby,encP,sUF]
 . have hk:IntKind.i64.wrap (((S'++[s]).length:Int) - 1)=((S'.length:Nat):Int):=by
    rw [z8,xde (by simp<;>omega) (by simp at hS |-<;>omega)];simp
   have g1:((S'++[s]).length:Int)>0:=by simp<;>omega
   have g2:(S'.length:Int)<((S'++[s]).length:Int):=by simp<;>omega
   have g3:S'.length<(S'++[s]).length:=by simp
   have gf:((S'++[s]).map encP).getD S'.length .top=encP s:=by
    rw [xaM _ _ _ (by simp)];simp
   have hl:(S'++[s]).getLast?=some s:=by simp
   by_cases he:s.2=n
   . refine ⟨(true,((S'++[s]).length,(S'++[s]).map encP),(0,[])),?_,?_,?_⟩
     . unfold xc7 xja xgV;simp only [hk,g1,g2,g3,gf,sBU,cP0,cP1,lP,sP,sP0,sP1,he]
     . simp only [xaL,putS,hl,if_pos he,sUF]
     . simp only [xaL,putS,hl,if_pos he,sUF]
   . have he':(s.2==n)=false:=by simp [he]
     refine ⟨(false,(0,[]),((S'++[s]).length+1,(S'++[s]).map encP++[encP (f,n)])),?_,?_,?_⟩
     . unfold xc7 xja xgV;simp only [hk,g1,g2,g3,gf,sBU,cP0,cP1,lP,sP,sP0,sP1,he',m1,m2];rfl
     . simp only [xaK,putS,hl,if_neg he,sUF];simp
     . simp only [xaK,putS,hl,if_neg he,sUF];simp
def ptsC (l:List Cnt):List Int:=l.foldl (fun P c=>if pv c.1=true then insI (insI P c.1.1) c.1.2 else P) [0]
theorem xww (l:List Cnt) (c:Cnt):ptsC (l++[c])=if pv c.1=true then insI (insI (ptsC l) c.1.1) c.1.2 else ptsC l:=by simp [ptsC]
theorem xwy:∀ l:List Cnt,Asc (ptsC l.reverse)/\∀ x,x∈ptsC l.reverse↔x=0\/∃ c,c∈l/\pv c.1=true/\(x=c.1.1\/x=c.1.2)
 | []=>by simp [ptsC,Asc]
 | c::l=>by
  obtain ⟨h1,h2⟩:=xwy l;rw [List.reverse_cons,xww];split
  . rename_i hv;refine ⟨xsH (xsH h1 _) _,fun x=>?_⟩
    rw [xqy,xqy,h2];constructor
    . rintro (h|h|h|⟨c',a,b,d⟩)
      . exact .inr ⟨c,by simp,hv,.inr h⟩
      . exact .inr ⟨c,by simp,hv,.inl h⟩
      . exact .inl h
      . exact .inr ⟨c',by simp [a],b,d⟩
    . rintro (h|⟨c',a,b,d⟩)
      . exact .inr (.inr (.inl h))
      . rcases zC.1 a with rfl|a
        . rcases d with d|d
          . exact .inr (.inl d)
          . exact .inl d
        . exact .inr (.inr (.inr ⟨c',a,b,d⟩))
  . rename_i hv;refine ⟨h1,fun x=>?_⟩
    rw [h2];constructor
    . rintro (h|⟨c',a,b,d⟩)
      . exact .inl h
      . exact .inr ⟨c',by simp [a],b,d⟩
    . rintro (h|⟨c',a,b,d⟩)
      . exact .inl h
      . rcases zC.1 a with rfl|a
        . exact absurd b hv
        . exact .inr ⟨c',a,b,d⟩
theorem xE8 (l:List Cnt):Asc (ptsC l)/\∀ x,x∈ptsC l↔x=0\/∃ c,c∈l/\pv c.1=true/\(x=c.1.1\/x=c.1.2):=by
 have:=xwy l.reverse;simpa using this
theorem xFN (l:List Cnt) (hl:l.length<=262144):Iter (xe8 (l.map encC)) ([AV.int IntKind.i64 (0:Int)],(0:Int))=some ((ptsC l).map encN)/\(ptsC l).length<=2*l.length+1:=by
 have q:∀ l:List Cnt,(ptsC l.reverse).length<=2*l.length+1:=fun l=>by
  induction l with
  | nil=>simp [ptsC]
  | cons c l ih =>
   rw [List.reverse_cons,xww];have a1:=xo2 (ptsC l.reverse) c.1.1;have a2:=xo2 (insI (ptsC l.reverse) c.1.1) c.1.2;split<;>simp<;>omega
 refine ⟨?_,by have:=q l.reverse;simpa using this⟩
 refine xiI l (fun P c=>if pv c.1=true then insI (insI P c.1.1) c.1.2 else P) (fun n b=>(b.map encN,(n:Int))) (fun n b=>b.length<=2*n+1) (fun n h b hb=>?_) l.length 0 [0] (by omega) (by simp) ?_
 . have h1:(n:Int)<(l.length:Int):=by omega
   have gf:(l.map encC).getD n .top=encC l[n]:=xaM _ _ _ h;have a1:=xo2 b l[n].1.1;have a2:=xo2 (insI b l[n].1.1) l[n].1.2;have i1:=xuK b l[n].1.1 (by omega)
   have i2:=xuK (insI b l[n].1.1) l[n].1.2 (by omega)
   refine ⟨?_,by split<;>omega⟩
   simp only [xe8,xld,xh3,sBU,h,h1,gf,cC0,cC1,cC2,lC,sC,sC3,sC2,xpF,i1,i2,xF0 (n:=n) (by omega),sC0,sC1]
   cases pv l[n].1<;>simp [xaL,xaK,sUF]
 . simp only [zr];simp only [xe8,xld,xh3,za,zy,zm,xaK,sUF];rfl
def Tame (l:List Cnt):Prop:=l.length<=262144/\∀ c,c∈l->-1099511627776<=c.2/\c.2<=1099511627776
theorem xFO (l:List Cnt) (hl:Tame l) (P:List Int) (hP:P.length<=1048576) (on k:Nat) (hk:k<P.length) (ox:List AV):Iter (xfa (l.map encC) (P.map encN) on (k:Int)) ((0:Int),(0:Int),ox)=some (sumC l P[k],ox):=by
 have k1:(k:Int)<(P.length:Int):=by omega
 have gk:(P.map encN).getD k .top=encN P[k]:=xaM _ _ _ hk;have J:=hl.1;refine xjK (fun i=>((sumC (l.take i) P[k],(i:Int),ox):Int×Int×List AV)) l.length _ (fun i hi=>?_) ?_ l.length 0 (by omega)
 . have h1:(i:Int)<(l.length:Int):=by omega
   have gf:(l.map encC).getD i .top=encC l[i]:=xaM _ _ _ hi;have hs:sumC (l.take (i+1)) P[k]=sumC (l.take i) P[k]+if hasP l[i].1 P[k]=true then l[i].2 else 0:=by
    rw [List.take_add_one,ze hi,xyB];show _+sumC [l[i]] P[k]=_;rw [xlx,xwQ];omega
   have hb:=xwP 1099511627776 (by omega) P[k] (l.take i) fun c hc=>hl.2 c (List.mem_of_mem_take hc)
   have q:(l.take i).length=i:=by rw [zt];omega
   rw [q] at hb;have hc:=hl.2 l[i] (zo hi);have hw:hasP l[i].1 P[k]=true->IntKind.i64.wrap (sumC (l.take i) P[k]+l[i].2)=sumC (l.take i) P[k]+l[i].2:=fun _=>xde (by omega) (by omega)
   simp only [xfa,xle,sBU,hi,h1,hk,k1,gf,gk,cC0,cC1,cC2,lC,sC,sC3,sC2,cN,sN,xCL,xF0 (n:=i) (by omega),hs]
   cases hc:hasP l[i].1 P[k] with
   | false=>simp [xaK,sUF]
   | true=>rw [xaL,hw hc];rfl
 . simp only [xfa,xle,za,zy,zm,xaK,y4,sUF]
theorem xFc (l:List Cnt) (hl:Tame l):∃ S,xsX (l.map encC)=some (S.map encP)/\StepI (sumC l) 1099511627776 S/\S.length<=2*l.length+1:=by
 obtain ⟨e0,an⟩:=xFN l hl.1;obtain ⟨V,U⟩:=xE8 l;generalize hP:ptsC l=P at *;have al:=hl.1;have Q:∀ x,x∈P->0<=x/\x<=1099511627776:=fun x hx=>by
  rcases (U x).1 hx with rfl|⟨c,_,hv,h⟩
  . omega
  . have:=xei.1 hv;rcases h with rfl|rfl<;>omega
 obtain ⟨m,hm,Y,J⟩:∃ m,m<=P.length/\(∀ k (h:k<P.length),k<m->P[k]<1099511627776)/\∀ h:m<P.length,¬ P[m]<1099511627776:=by
  obtain ⟨m,a,b,c,_⟩:=xsI 1099511627776 P;exact ⟨m,a,fun k h hk=>b k hk h,c⟩
 let G:Nat->List Per:=fun k=>(P.take k).foldl (fun S p=>putS S p (sumC l p)) []
 have hG:∀ k (h:k<P.length),G (k+1)=putS (G k) P[k] (sumC l P[k]):=fun k h=>by
  simp only [G];rw [List.take_add_one,ze h,List.foldl_append];rfl
 have ad:∀ k,k<=P.length->(G k).length<=k:=fun k=>by
  induction k with
  | zero=>intro _;simp [G]
  | succ k ih=>intro h;rw [hG k (by omega)];have:=xwz (G k) P[k] (sumC l P[k]);have:=ih (by omega);omega
 have aa:0<P.length:=List.length_pos_of_mem ((U 0).2 (.inl rfl));have q:P[0]=0:=by
  have h0:=(Q P[0] (zo aa)).1;obtain ⟨j,hj,ah⟩:=zp.1 ((U 0).2 (.inl rfl));rcases Nat.eq_zero_or_pos j with rfl|ac
  . exact ah
  . have:=zB.1 V 0 j aa hj ac;omega
 have am:0<m:=by
  rcases Nat.eq_zero_or_pos m with rfl|h
  . exact absurd (by rw [q];omega) (J aa)
  . exact h
 have nb:∀ k (h:k<P.length) T',(∀ h2:k+1<P.length,T'<=P[k+1])->T'<=1099511627776->∀ t,P[k]<=t->t<T'->sumC l t=sumC l P[k]:=fun k h T' hT hF t h1 h2=>by
  have no:∀ x,x∈P->¬ (P[k]<x/\x<T'):=fun x hx ⟨a,b⟩=>by
   obtain ⟨j,hj,rfl⟩:=zp.1 hx;rcases Nat.lt_trichotomy j k with Z|rfl|Z
   . have:=zB.1 V j k hj h Z;omega
   . omega
   . rcases Nat.lt_or_eq_of_le Z with h3|h3
     . have:=zB.1 V (k+1) j (by omega) hj h3
       have:=hT (by omega);omega
     . have h4:j=k+1:=h3.symm;subst h4;have:=hT hj;omega
  refine xtx (T:=P[k]) (T':=T') (fun c hc hv=>⟨no _ ((U _).2 (.inr ⟨c,hc,hv,.inl rfl⟩)),no _ ((U _).2 (.inr ⟨c,hc,hv,.inr rfl⟩))⟩) t h1 h2
 have inv:∀ k (h:k<P.length),k<m->StepI (sumC l) P[k] (G k):=fun k=>by
  induction k with
  | zero=>intro h _;rw [q];exact .nil _
  | succ k ih =>
   intro h aj;rw [hG k (by omega)]
   have h1:=zB.1 V k (k+1) (by omega) h (by omega)
   have h2:=Y (k+1) h aj;exact (ih (by omega) (by omega)).put (Q _ (zo (by omega))).1 h1 (nb k (by omega) P[k+1] (fun _=>Int.le_refl _) (by omega))
 have ai:StepI (sumC l) 1099511627776 (G m):=by
  obtain ⟨k,rfl⟩:∃ k,m=k+1:=⟨m - 1,by omega⟩
  rw [hG k (by omega)]
  exact (inv k (by omega) (by omega)).put (Q _ (zo (by omega))).1 (Y k (by omega) (by omega)) (nb k (by omega) _ (fun h2=>by have:=J h2;omega) (Int.le_refl _))
 refine ⟨G m,?_,ai,by have:=ad m hm;omega⟩
 have e1:Iter (xe9 (l.map encC) (P.map encN)) ((0:Nat),(0:Int),[])=some ((G m).length,(G m).map encP):=by
  refine xjK (fun k=>(((G k).length,(k:Int),(G k).map encP):Nat×Int×List AV)) m _ (fun k hk=>?_) ?_ m 0 (by omega)
  . have O:k<P.length:=by omega
    have k1:(k:Int)<(P.length:Int):=by omega
    have k2:=Y k O hk;have gk:(P.map encN).getD k .top=encN P[k]:=xaM _ _ _ O;have e2:=xFO l hl P (by omega) (G k).length k O ((G k).map encP)
    have ak:=ad k (by omega)
    obtain ⟨p,ae,ag,af⟩:=xzb (G k) P[k] (sumC l P[k]) (by omega)
    simp only [xe9,xi5,xh4,xh5,xh6,xh7,xh8,xh9,xia,sBU,O,k1,k2,gk,cN,sN,e2,ae,ag,af,xF0 (n:=k) (by omega),hG k O]
  . by_cases ab:m<P.length
    . have k1:(m:Int)<(P.length:Int):=by omega
      have k2:=J ab;have gk:(P.map encN).getD m .top=encN P[m]:=xaM _ _ _ ab;simp only [xe9,xi5,xh4,xh5,xh6,xh7,xh8,xh9,xia,sBU,ab,k1,k2,gk,cN,sN]
    . have k1:¬ (m:Int)<(P.length:Int):=by omega
      simp only [xe9,xi5,xh4,xh5,xh6,xh7,xh8,xh9,xia,sBU,k1]
 unfold xsX xqE;simp only [xpQ,xpR,xpS,xpT,e0,zh,zk,xaL,e1,sOO,sUF]
end Go.Sim.M
end
noncomputable section
set_option maxRecDepth 100000
namespace Go.Sim.M
open Go.RowKit Go.Sim.Srt Go.Sort
def chg (c:Cnt):List Per:=if pv c.1=true then [(c.1.1,c.2),(c.1.2,-c.2)] else []
theorem xyP {l:List Cnt}:∀ s,s∈l.flatMap chg->0<=s.1/\s.1<=1099511627776:=fun s hs=>by
 obtain ⟨c,hc,h⟩:=y3.1 hs;unfold chg at h;split at h
 . rename_i hv;have:=xei.1 hv;simp only [zC,List.not_mem_nil,or_false] at h;rcases h with rfl|rfl<;>dsimp only<;>omega
 . simp at h
theorem xDC (c:Cnt):(chg c).length<=2:=by unfold chg;split<;>simp
def sumS (S:List Per) (t:Int):Int:=(S.map fun s=>if s.1<=t then s.2 else 0).sum
theorem xsu (a b:List Per) (t:Int):sumS (a++b) t=sumS a t+sumS b t:=by simp [sumS]
theorem xCZ {a b:List Int} (h:a.Perm b):a.sum=b.sum:=by
 induction h with
 | nil=>rfl
 | cons x _ ih=>simp [ih]
 | swap x y l=>simp;omega
 | trans _ _ h1 h2=>rw [h1,h2]
theorem xBx {a b:List Per} (h:a.Perm b) (t:Int):sumS a t=sumS b t:=xCZ (h.map _)
theorem xwR (t:Int):∀ l:List Cnt,sumS (l.flatMap chg) t=sumC l t
 | []=>rfl
 | c::l=>by
  rw [zR,xsu,xwR t l,xlx];congr 1;unfold chg;cases hv:pv c.1 with
  | false=>simp [sumS,hasP,hv]
  | true =>
   have:=xei.1 hv;simp only [if_true,sumS,zV,zW,List.sum_cons,List.sum_nil,hasP,hv,Bool.true_and,zf,zl];by_cases h1:c.1.1<=t<;>by_cases h2:c.1.2<=t
   . rw [if_pos h1,if_pos h2,if_neg (by omega)];omega
   . rw [if_pos h1,if_neg h2,if_pos (by omega)];omega
   . omega
   . rw [if_neg h1,if_neg h2,if_neg (by omega)];omega
theorem sum0:∀ L:List Per,(L.map fun _=>(0:Int)).sum=0
 | []=>rfl
 | _::L=>by rw [zV,List.sum_cons,sum0 L];rfl
def preS (S:List Per) (i:Nat):Int:=((S.take i).map (·.2)).sum
theorem xuZ (S:List Per) (i:Nat) (h:i<S.length):preS S (i+1)=preS S i+S[i].2:=by
 unfold preS;rw [List.take_add_one,ze h,zx,List.sum_append];simp
theorem xCG (S:List Per) (i:Nat) (hi:i<=S.length) (t:Int) (h1:∀ k (h:k<S.length),k<i->S[k].1<=t) (h2:∀ k (h:k<S.length),i<=k->t<S[k].1):preS S i=sumS S t:=by
 have e:S=S.take i++S.drop i:=(List.take_append_drop i S).symm
 conv=>rhs;rw [e]
 rw [xsu];have a1:sumS (S.take i) t=preS S i:=by
  unfold sumS preS;congr 1;refine List.map_congr_left fun s hs=>?_
  obtain ⟨k,hk,rfl⟩:=zp.1 hs;rw [zt] at hk;rw [List.getElem_take,if_pos (h1 k (by omega) (by omega))]
 have a2:sumS (S.drop i) t=0:=by
  unfold sumS;have:(S.drop i).map (fun s=>if s.1<=t then s.2 else 0)=(S.drop i).map fun _=>(0:Int):=by
   refine List.map_congr_left fun s hs=>?_
   obtain ⟨k,hk,rfl⟩:=zp.1 hs;rw [y1] at hk;have:=h2 (i+k) (by omega) (by omega)
   rw [List.getElem_drop,if_neg (by omega)]
  rw [this];exact sum0 _
 omega
theorem xwu {B:Int} (hB:0<=B) (S:List Per) (h:∀ s,s∈S->-B<=s.2/\s.2<=B):∀ i,i<=S.length->-(B*i)<=preS S i/\preS S i<=B*i
 | 0,_=>by simp [preS]
 | i+1,hi=>by
  have ih:=xwu hB S h i (by omega)
  have hs:=h S[i] (zo (by omega))
  rw [xuZ S i (by omega),show B*((i+1:Nat):Int)=B*(i:Int)+B by rw [Int.natCast_add,Int.mul_add];simp]
  omega
def toS (e:Per):TyS:=(Fin.ofNat 1099511627777 e.1.toNat,e.2)
def ofS (x:TyS):Per:=((x.1.val:Int),x.2)
theorem xDW {e:Per} (h1:0<=e.1) (h2:e.1<=1099511627776):ofS (toS e)=e:=by
 have:e.1.toNat % 1099511627777=e.1.toNat:=Nat.mod_eq_of_lt (by omega)
 simp only [ofS,toS,Fin.ofNat,this,Int.toNat_of_nonneg h1]
theorem xEf (E:List Per) (h:∀ e,e∈E->0<=e.1/\e.1<=1099511627776):(E.map encP).all isS=true/\∃ S:List Per,srtS (E.map encP)=S.map encP/\S.Perm E/\S.Pairwise fun x y=>x.1<=y.1:=by
 refine ⟨?_,(pdqL cmpS (E.map toS)).map ofS,?_,?_,?_⟩
 . rw [zI];intro x hx;obtain ⟨e,he,rfl⟩:=zK.1 hx;have:=h e he;show (decide _&&decide _)=true;rw [decide_eq_true this.1,decide_eq_true this.2];rfl
 . unfold srtS;have e1:(E.map encP).map decS=E.map toS:=by rw [List.map_map];rfl
   rw [e1,List.map_map];rfl
 . have hp:=((xnV cmpS swoS (E.map toS)).1).map ofS;have e2:(E.map toS).map ofS=E:=by
    rw [List.map_map]
    conv=>rhs;rw [<-List.map_id E]
    refine List.map_congr_left fun e he=>?_
    exact xDW (h e he).1 (h e he).2
   rwa [e2] at hp
 . rw [List.pairwise_map];refine (xsj cmpS swoS (E.map toS)).imp fun {x y} q=>?_
   show ((x.1.val:Nat):Int)<=((y.1.val:Nat):Int);unfold cmpS at q;omega
theorem xDP (n o:Nat):xi1 n o=xec n o 0:=rfl
theorem xs2 (l:List Cnt) (hl:l.length<=1048576) (ht:∀ c,c∈l->-1099511627776<=c.2/\c.2<=1099511627776):Iter (xfd (l.map encC) ((l.length:Nat):Int)) ((0:Nat),(0:Int),[])=some ((l.flatMap (fun (f:Cnt)=>chg f)).length,(l.flatMap (fun (f:Cnt)=>chg f)).map encP):=by
 refine xjL l (fun (f:Cnt)=>chg f) encP 2 (fun f hf=>?_) (fun n h D hD=>?_) (fun D=>?_)
 . cases q:(pv (f).1)<;>simp [chg,q]
 . have h1:(n:Int)<(l.length:Int):=by omega
   have m1:(D.length+2)*16<=140737488355328:=by omega
   have m2:D.length+2<=4611686018427387904:=by omega
   have gf:(l.map encC).getD n .top=encC l[n]:=xaM _ _ _ h;have hm:=ht l[n] (zo h);have hw:IntKind.i64.wrap (0 - l[n].2)=-l[n].2:=by rw [xde (by omega) (by omega)];omega
   simp only [xfd,xlf,sBU,h,h1,gf,cC0,cC1,cC2,lC,sC,sC3,sC2,xnW,hw,m1,m2,xF0 (n:=n) (by omega)]
   cases q:(pv (l[n]).1)<;>simp [encP,xaL,xaK,encR,chg,q,sUF]
 . simp only [xfd,xlf,za,zy,zm,xaK,sUF]
theorem xsG (S:List Per) (hS:S.length<=1048576) (hb:∀ s,s∈S->-1099511627776<=s.2/\s.2<=1099511627776) (on:Nat) (at':Int) (ox:List AV):∀ (d i:Nat),i+d=S.length->∃ j:Nat,i<=j/\j<=S.length/\(∀ k (h:k<S.length),i<=k->k<j->S[k].1=at')/\(∀ h:j<S.length,S[j].1≠at') /\
  Iter (xec S.length on at') (preS S i,(i:Int),S.map encP,ox)=some (preS S j,(j:Int),S.map encP,ox)
 | 0,i,h=>by
  refine ⟨i,zd _,by omega,fun k _ h1 h2=>by omega,fun h=>by omega,xaN ?_⟩
  have i1:¬ (i:Int)<(S.length:Int):=by omega
  simp only [xec,xi8,xiD,i1,zm,xaK,sUF]
 | d+1,i,h=>by
  have hi:i<S.length:=by omega
  have i1:(i:Int)<(S.length:Int):=by omega
  have gf:(S.map encP).getD i .top=encP S[i]:=xaM _ _ _ hi;by_cases he:S[i].1=at'
  . obtain ⟨j,h1,h2,h3,h4,h5⟩:=xsG S hS hb on at' ox d (i+1) (by omega)
    refine ⟨j,by omega,h2,fun k hk a b=>?_,h4,?_⟩
    . rcases Nat.lt_or_eq_of_le a with a|a
      . exact h3 k hk a b
      . subst a;exact he
    . have hp:=xwu (B:=1099511627776) (by omega) S hb i (by omega)
      have hs:=hb S[i] (zo hi);rw [xaV (s':=(preS S (i+1),((i+1:Nat):Int),S.map encP,ox)) ?_,h5];simp only [xec,xi8,xiD,sBU,hi,i1,gf,cP0,cP1,lP,sP,sP0,sP1,he,xF0 (n:=i) (by omega),xuZ S i hi]
      rw [xde (by omega) (by omega)]
  . have he':(S[i].1==at')=false:=by simp [he]
    refine ⟨i,zd _,by omega,fun k _ h1 h2=>by omega,fun _=>he,xaN ?_⟩
    simp only [xec,xi8,xiD,sBU,hi,i1,gf,cP0,cP1,lP,sP,sP0,sP1,he']
theorem xo8 (l:List Cnt) (hl:Tame l):∃ S,xqO (l.map encC)=some (S.map encP)/\StepI (sumC l) 1099511627776 S/\S.length<=2*l.length+1:=by
 have aw:=hl.1;have e0:=xs2 l (by omega) hl.2
 have hE:=xjI (g:=chg) (c:=2) l fun c _=>xDC c
 obtain ⟨aj,S,hS,hp,ap⟩:=xEf (l.flatMap chg) xyP;have ai:S.length=(l.flatMap chg).length:=hp.length_eq;have Q:∀ s,s∈S->0<=s.1/\s.1<=1099511627776:=fun s hs=>xyP s (hp.mem_iff.1 hs)
 have hb:∀ s,s∈S->-1099511627776<=s.2/\s.2<=1099511627776:=fun s hs=>by
  obtain ⟨c,hc,h⟩:=y3.1 (hp.mem_iff.1 hs);have:=hl.2 c hc;unfold chg at h;split at h
  . simp only [zC,List.not_mem_nil,or_false] at h;rcases h with rfl|rfl<;>dsimp only<;>omega
  . simp at h
 have hN:∀ t,sumS S t=sumC l t:=fun t=>by rw [xBx hp,xwR]
 have J:∀ a b (ha:a<S.length) (hb:b<S.length),a<=b->S[a].1<=S[b].1:=fun a b ha hb ao=>by
  rcases Nat.lt_or_eq_of_le ao with h|h
  . exact zB.1 ap a b ha hb h
  . subst h;exact Int.le_refl _
 let T:Nat->Int:=fun i=>if h:i<S.length then S[i].1 else 1099511627776
 have step:∀ (out:List Per) (i j:Nat) (at':Int),0<=at'->i<=j->j<=S.length->StepI (sumC l) at' out->at'<1099511627776->(∀ k (h:k<S.length),k<i->S[k].1<=at')->(∀ k (h:k<S.length),i<=k->at'<=S[k].1)->(∀ k (h:k<S.length),i<=k->k<j->S[k].1=at')->(∀ h:j<S.length,S[j].1≠at') ->
   preS S j=sumC l at'/\StepI (sumC l) (T j) (putS out at' (preS S j))/\at'<T j/\∀ k (h:k<S.length),k<j->S[k].1<=at':=fun out i j at' h0 ah hj U hF ab ag am hne=>by
  have a1:∀ k (h:k<S.length),k<j->S[k].1<=at':=fun k h hk=>by
   rcases zJ k i with h1|h1
   . exact ab k h h1
   . rw [am k h h1 hk];exact Int.le_refl _
  have a2:∀ k (h:k<S.length),j<=k->at'<S[k].1:=fun k h hk=>by
   have O:j<S.length:=by omega
   have b1:=ag j O ah;have b2:=hne O;have b3:=J j k O h hk;omega
  have hT:at'<T j:=by
   simp only [T];split
   . rename_i h;exact a2 j h (zd _)
   . exact hF
  have ad:∀ t,at'<=t->t<T j->preS S j=sumC l t:=fun t h1 h2=>by
   rw [<-hN];refine xCG S j hj t (fun k h hk=>by have:=a1 k h hk;omega) fun k h hk=>?_
   have O:j<S.length:=by omega
   have b3:=J j k O h hk;simp only [T,dif_pos O] at h2;omega
  have e:=ad at' (Int.le_refl _) hT;refine ⟨e,?_,hT,a1⟩;rw [e];exact U.put h0 hT fun t h1 h2=>by rw [<-ad t h1 h2,e]
 have ac:∀ (out:List Per) (f n:Int),out.length<=2*l.length+1->∃ p,xdM out.length f n (out.map encP)=some p/\br p.1 p.2.1.1 p.2.2.1=(putS out f n).length/\br p.1 p.2.1.2 p.2.2.2=(putS out f n).map encP:=fun out f n h=>xzb out f n (by omega)
 obtain ⟨j0,_,af,h3,h4,e1⟩:=xsG S (by omega) hb 0 0 ([]:List AV) S.length 0 (by omega)
 obtain ⟨_,an,_,aq⟩:=step [] 0 j0 0 (Int.le_refl _) (zQ _) af (.nil _) (by omega) (fun k _ h=>by omega) (fun k h _=>(Q _ (zo h)).1) h3 h4
 obtain ⟨p0,ae,Z,V⟩:=ac [] 0 (preS S j0) (by simp)
 have o0:putS [] 0 (preS S j0)=[(0,preS S j0)]:=rfl;obtain ⟨r,hr,out,rfl,U,ak⟩:=xwb (step:=xfe S.length)
  (fun s=>∃ (out:List Per) (i:Nat),s=(out.length,preS S i,(i:Int),S.map encP,out.map encP)/\i<=S.length/\StepI (sumC l) (T i) out/\out.length<=i+1/\∀ k (h:k<S.length) (hi:i<S.length),k<i->S[k].1<=S[i].1) (fun s=>(S.length - s.2.2.1.toNat)) (fun r=>∃ out:List Per,r=(out.length,out.map encP)/\StepI (sumC l) 1099511627776 out/\out.length<=2*l.length+1)
  (by
   rintro _ ⟨out,i,rfl,hi,aa,ar,ab⟩;by_cases q:i<S.length
   . have i1:(i:Int)<(S.length:Int):=by omega
     have gf:(S.map encP).getD i .top=encP S[i]:=xaM _ _ _ q;have Y:T i=S[i].1:=dif_pos q;by_cases hF:S[i].1<1099511627776
     . left;obtain ⟨j,a1,a2,a3,a4,a5⟩:=xsG S (by omega) hb out.length S[i].1 (out.map encP) (S.length - i) i (by omega)
       rw [Y] at aa;obtain ⟨b1,b2,b3,b4⟩:=step out i j S[i].1 (Q _ (zo q)).1 a1 a2 aa hF (fun k h hk=>J k i h q (by omega)) (fun k h hk=>J i k q h hk) a3 a4
       have ah:i<j:=by
        rcases Nat.lt_or_eq_of_le a1 with h|h
        . exact h
        . subst h;exact absurd rfl (a4 q)
       obtain ⟨p,ae,Z,V⟩:=ac out S[i].1 (preS S j) (by omega)
       have au:=xwz out S[i].1 (preS S j);refine ⟨((putS out S[i].1 (preS S j)).length,preS S j,(j:Int),S.map encP,(putS out S[i].1 (preS S j)).map encP),?_,⟨_,j,rfl,a2,b2,by omega,fun k h hj hk=>J k j h hj (by omega)⟩,by dsimp only;rw [zN,zN];omega⟩
       simp only [xfe,xi7,xis,xit,xiu,xiv,xiw,xiy,xiz,xiA,xiB,xiC,xhu,xhv,xfR,sBU,q,i1,gf,cP0,cP1,lP,sP,sP0,sP1,hF,a5,ae,Z,V]
     . right;have al:S[i].1=1099511627776:=by have:=(Q _ (zo q)).2;omega
       refine ⟨(out.length,out.map encP),?_,out,rfl,by rw [<-al,<-Y];exact aa,by omega⟩
       simp only [xfe,xi7,xis,xit,xiu,xiv,xiw,xiy,xiz,xiA,xiB,xiC,xhu,xhv,xfR,sBU,q,i1,gf,cP0,cP1,lP,sP,sP0,sP1,hF]
   . right;have i1:¬ (i:Int)<(S.length:Int):=by omega
     have Y:T i=1099511627776:=dif_neg q;refine ⟨(out.length,out.map encP),?_,out,rfl,by rw [<-Y];exact aa,by omega⟩
     simp only [xfe,xi7,xis,xit,xiu,xiv,xiw,xiy,xiz,xiA,xiB,xiC,xhu,xhv,xfR,sBU,i1])
  (([(0,preS S j0)]:List Per).length,preS S j0,(j0:Int),S.map encP,([(0,preS S j0)]:List Per).map encP) ⟨[(0,preS S j0)],j0,rfl,af,an,by simp,fun k h hj hk=>J k j0 h hj (by omega)⟩
 refine ⟨out,?_,U,ak⟩;have d1:(l.flatMap chg).length<4611686018427387904:=by omega
 have d2:((l.flatMap chg).length).beq (l.flatMap chg).length=true:=Nat.beq_refl _;have e1':Iter (xi1 (l.flatMap chg).length 0) ((0:Int),(0:Int),S.map encP,[])=some (preS S j0,(j0:Int),S.map encP,[]):=by
  rw [xDP,<-ai];exact e1
 rw [ai] at hr;unfold xqO xqP;have hp1':xdM 0 0 (preS S j0) []=some p0:=ae;rw [o0] at Z V;simp only [xpx,xp0,xp1,xp2,xp3,xp4,xp5,xp6,xp7,xp8,xpn,xpo,xpp,xpq,xpr,xkc,xm3,xps,za,e0,zh,zk,xaL,aj,hS,d1,d2,e1',hp1',Z,V,hr,zn,zS,sOO,sUF]
end Go.Sim.M
end
noncomputable section
set_option maxRecDepth 100000
namespace Go.Sim.M
open Go.RowKit Go.Sim.Srt
theorem xoX (l:List Per) (hl:l.length<=1048576):Iter (xb7 (l.map encP) ((l.length:Nat):Int)) ((0:Nat),(0:Int),[])=some ((l.flatMap (fun (f:Per)=>[(f,(1:Int))])).length,(l.flatMap (fun (f:Per)=>[(f,(1:Int))])).map encC):=by
 refine xjL l (fun (f:Per)=>[(f,(1:Int))]) encC 1 (fun f hf=>?_) (fun n h D hD=>?_) (fun D=>?_)
 . simp
 . have h1:(n:Int)<(l.length:Int):=by omega
   have m1:(D.length+1)*24<=140737488355328:=by omega
   have m2:D.length+1<=4611686018427387904:=by omega
   have gf:(l.map encP).getD n .top=encP l[n]:=xaM _ _ _ h;simp only [xb7,xfu,sBU,h,h1,gf,cP0,cP1,lP,sP,sP0,sP1,m1,m2,xF0 (n:=n) (by omega)]
   simp [encC]
 . simp only [xb7,xfu,za,zy,zm,xaK,sUF]
theorem xzO (l:List Per) (hl:l.length<=1048576):xeZ (l.map encP)=xqO ((l.map fun p=>(p,(1:Int))).map encC):=by
 have h:=xoX l hl;rw [xGG] at h;unfold xeZ xjy xjf xjg xjh xji;rw [za,h];simp only [sOO,xAV]
theorem xrG (l:List Fc) (hl:l.length<=1048576):Iter (xel (l.map encF)) ((0:Nat),(0:Int),[])=some ((l.flatMap (fun (f:Fc)=>if pv f.p=true then [f.r] else [])).length,(l.flatMap (fun (f:Fc)=>if pv f.p=true then [f.r] else [])).map encR):=by
 refine xjL l (fun (f:Fc)=>if pv f.p=true then [f.r] else []) encR 1 (fun f hf=>?_) (fun n h D hD=>?_) (fun D=>?_)
 . cases q:(pv (f).p)<;>simp [q]
 . have h1:(n:Int)<(l.length:Int):=by omega
   have m1:(D.length+1)*24<=140737488355328:=by omega
   have m2:D.length+1<=4611686018427387904:=by omega
   have gf:(l.map encF).getD n .top=encF l[n]:=xaM _ _ _ h;simp only [xel,xjt,sBU,h,h1,gf,cF0,cF1,cF2,sF0,sF1,sF2,lF,sF12,sF02,xpF,m1,m2,xF0 (n:=n) (by omega)]
   cases q:(pv (l[n]).p)<;>simp [encR,xaL,xaK,encR,q,sUF]
 . simp only [xel,xjt,za,zy,zm,xaK,sUF]
theorem xqH (q:Row) (l:List Fc) (hl:l.length<=1048576) (hr:∀ f,f∈l->f.r.length<=maxLen):Iter (xdn (l.map encF) (q.map encV)) ((0:Nat),(0:Int),[])=some ((l.flatMap (fun (f:Fc)=>if cmpR f.r q==0 then [(f.p,(1:Int))] else [])).length,(l.flatMap (fun (f:Fc)=>if cmpR f.r q==0 then [(f.p,(1:Int))] else [])).map encC):=by
 refine xjL l (fun (f:Fc)=>if cmpR f.r q==0 then [(f.p,(1:Int))] else []) encC 1 (fun f hf=>?_) (fun n h D hD=>?_) (fun D=>?_)
 . cases J:(cmpR (f).r q==0)<;>simp [J]
 . have h1:(n:Int)<(l.length:Int):=by omega
   have m1:(D.length+1)*24<=140737488355328:=by omega
   have m2:D.length+1<=4611686018427387904:=by omega
   have gf:(l.map encF).getD n .top=encF l[n]:=xaM _ _ _ h;have hm:=hr l[n] (zo h);simp only [xdn,xhX,sBU,h,h1,gf,cF0,cF1,cF2,sF0,sF1,sF2,lF,sF12,sF02,xkz _ _ hm,m1,m2,xF0 (n:=n) (by omega)]
   cases J:(cmpR (l[n]).r q==0)<;>simp [encC,xaL,xaK,encR,J,sUF]
 . simp only [xdn,xhX,za,zy,zm,xaK,sUF]
theorem xqI (q:Row) (l:List Per) (hl:l.length<=1048576):Iter (xco (q.map encV) (l.map encP)) ((0:Nat),(0:Int),[])=some ((l.flatMap (fun (f:Per)=>[(⟨q,f⟩:Fc)])).length,(l.flatMap (fun (f:Per)=>[(⟨q,f⟩:Fc)])).map encF):=by
 refine xjL l (fun (f:Per)=>[(⟨q,f⟩:Fc)]) encF 1 (fun f hf=>?_) (fun n h D hD=>?_) (fun D=>?_)
 . simp
 . have h1:(n:Int)<(l.length:Int):=by omega
   have m1:(D.length+1)*40<=140737488355328:=by omega
   have m2:D.length+1<=4611686018427387904:=by omega
   have gf:(l.map encP).getD n .top=encP l[n]:=xaM _ _ _ h;simp only [xco,xhY,sBU,h,h1,gf,cP0,cP1,lP,sP,sP0,sP1,m1,m2,xF0 (n:=n) (by omega)]
   simp [encF]
 . simp only [xco,xhY,za,zy,zm,xaK,sUF]
section
variable {α : Type} {enc : α -> AV} {okE : AV -> Bool} {ldE : AV -> AV}
theorem gR {l:List α} {i:Nat} {x:α} (h:l[i]?=some x):(List.map enc l).getD i .top=enc x:=by
 simp [List.getD,h]
theorem setR (l:List α) (i:Nat) (x:α):(List.map enc l).set i (enc x)=List.map enc (l.set i x):=by
 simp [List.map_set]
theorem xjR {l:List α} {i:Nat} {x:α} (h:l[i]?=some x):i<l.length:=(List.getElem?_eq_some_iff.1 h).1
theorem xd4 {l:List α} {i:Nat} {x:α} (h:l[i]?=some x):x∈l:=List.mem_of_getElem? h
theorem xCz {l:List α} {i j:Nat} {x y:α} (hx:x∈l) (hy:y∈l) {z:α} (h:z∈(l.set i y).set j x):z∈l:=by
 rcases List.mem_or_eq_of_mem_set h with h|rfl
 . rcases List.mem_or_eq_of_mem_set h with h|rfl
   . exact h
   . exact hy
 . exact hx
theorem w64 {x:Int} {n:Nat} (h:x=(n:Int)) (hn:n<=9223372036854775807):IntKind.i64.wrap x=(n:Int):=by
 rw [xde (by omega) (by omega)];exact h
theorem xGL {i j:Nat} (h:i+j<=9223372036854775807):IntKind.i64.wrap ((IntKind.u64.wrap (IntKind.i64.wrap ((i:Int)+(j:Int)))).fdiv 2)=(((i+j) / 2:Nat):Int):=by
 rw [xde (n:=(i:Int)+(j:Int)) (by omega) (by omega)]
 have hu:IntKind.u64.wrap ((i:Int)+(j:Int))=(i:Int)+(j:Int):=by
  unfold IntKind.wrap IntKind.bits IntKind.signed;simp;omega
 rw [hu,Int.fdiv_eq_ediv_of_nonneg _ (by omega)]
 exact w64 (by omega) (by omega)
structure LOk (N:Nat) (ok:α->Prop) (l:List α):Prop where
 len:l.length=N
 ok:∀ x,x∈l->ok x
theorem LOk.set2 {N:Nat} {ok:α->Prop} {l:List α} (h:LOk N ok l) {i j:Nat} {x y:α} (hx:x∈l) (hy:y∈l):LOk N ok ((l.set i y).set j x) :=
 ⟨by simp [h.len],fun z hz=>h.ok z (xCz hx hy hz)⟩
theorem LOk.perm {N:Nat} {ok:α->Prop} {l l':List α} (h:LOk N ok l) (hp:l'.Perm l):LOk N ok l' :=
 ⟨hp.length_eq.trans h.len,fun z hz=>h.ok z (hp.mem_iff.1 hz)⟩
theorem xg2 {σ ρ σ' ρ':Type} {p:σ->Option (σ⊕ρ)} {g:σ'->Option (σ'⊕ρ')} (I:σ->Prop) (J:ρ->Prop) (e:σ->σ') (f:ρ->ρ')
  (h:∀ s,I s->(∀ s',p s=some (.inl s')->g (e s)=some (.inl (e s'))/\I s')/\(∀ r,p s=some (.inr r)->g (e s)=some (.inr (f r))/\J r)) {s:σ} {r:ρ} (hI:I s) (hr:Iter p s=some r):Iter g (e s)=some (f r)/\J r:=by
 obtain ⟨n,hn⟩:=xnh.1 hr;clear hr;induction n generalizing s with
 | zero=>simp [iterN] at hn
 | succ n ih =>
  unfold iterN at hn;obtain ⟨h1,h2⟩:=h s hI;split at hn
  . rename_i s' hs;obtain ⟨h3,h4⟩:=h1 s' hs;rw [xaV h3];exact ih h4 hn
  . rename_i r' hs;cases hn;obtain ⟨h3,h4⟩:=h2 _ hs;exact ⟨xaN h3,h4⟩
  . simp at hn
theorem xkZ {σ ρ σ' ρ':Type} {p:Option (σ⊕ρ)} {g:Option (σ'⊕ρ')} {I:σ->Prop} {J:ρ->Prop} {e:σ->σ'} {f:ρ->ρ'} {s0:σ} (hp:p=some (.inl s0)) (hg:g=some (.inl (e s0))) (hI:I s0) :
  (∀ s',p=some (.inl s')->g=some (.inl (e s'))/\I s')/\(∀ r,p=some (.inr r)->g=some (.inr (f r))/\J r) :=
 ⟨fun s' h=>by rw [hp] at h;simp only [z6,Sum.inl.injEq] at h;subst h;exact ⟨hg,hI⟩,fun r h=>by rw [hp] at h;simp at h⟩
theorem xkQ {σ ρ σ' ρ':Type} {p:Option (σ⊕ρ)} {g:Option (σ'⊕ρ')} {I:σ->Prop} {J:ρ->Prop} {e:σ->σ'} {f:ρ->ρ'} {r0:ρ} (hp:p=some (.inr r0)) (hg:g=some (.inr (f r0))) (hJ:J r0) :
  (∀ s',p=some (.inl s')->g=some (.inl (e s'))/\I s')/\(∀ r,p=some (.inr r)->g=some (.inr (f r))/\J r) :=
 ⟨fun s' h=>by rw [hp] at h;simp at h,fun r h=>by rw [hp] at h;simp only [z6,Sum.inr.injEq] at h;subst h;exact ⟨hg,hJ⟩⟩
theorem xeJ {σ ρ σ' ρ':Type} {p:Option (σ⊕ρ)} {g:Option (σ'⊕ρ')} {I:σ->Prop} {J:ρ->Prop} {e:σ->σ'} {f:ρ->ρ'} (hp:p=none) :
  (∀ s',p=some (.inl s')->g=some (.inl (e s'))/\I s')/\(∀ r,p=some (.inr r)->g=some (.inr (f r))/\J r) :=
 ⟨fun s' h=>by rw [hp] at h;simp at h,fun r h=>by rw [hp] at h;simp at h⟩
theorem xzl {N:Nat} (he:∀ a,okE (enc a)=true) (hd:∀ a,ldE (enc a)=enc a) (hN:N<=2 ^ 60) {ok:α->Prop} {c:α->α->Int} {P:AV->AV->Bool} {V:AV->AV->Int} (hc:∀ x y,ok x->ok y->P (enc x) (enc y)=true/\V (enc x) (enc y)=c x y)
  {g:Int×List AV->Option ((Int×List AV)⊕List AV)} (a:Nat)
  (hg:∀ (j:Int) (xs:List AV),g (j,xs)=br (decide (j>(a:Int))) (br (decide ((0:Int)<=j)&&decide (j<(N:Int))) (br (decide ((0:Nat)+j.toNat<xs.length)&&okE (xs.getD ((0:Nat)+j.toNat) AV.top))
   (br (decide ((0:Int)<=IntKind.i64.wrap (j - 1))&&decide (IntKind.i64.wrap (j - 1)<(N:Int))) (br (decide ((0:Nat)+(IntKind.i64.wrap (j - 1)).toNat<xs.length)&&okE (xs.getD ((0:Nat)+(IntKind.i64.wrap (j - 1)).toNat) AV.top))
   (br (P (xs.getD ((0:Nat)+j.toNat) AV.top) (xs.getD ((0:Nat)+(IntKind.i64.wrap (j - 1)).toNat) AV.top))
   (br (decide (V (xs.getD ((0:Nat)+j.toNat) AV.top) (xs.getD ((0:Nat)+(IntKind.i64.wrap (j - 1)).toNat) AV.top)<0))
   (br (decide ((0:Int)<=IntKind.i64.wrap (j - 1))&&decide (IntKind.i64.wrap (j - 1)<(N:Int))) (br (decide ((0:Nat)+(IntKind.i64.wrap (j - 1)).toNat<xs.length)&&okE (xs.getD ((0:Nat)+(IntKind.i64.wrap (j - 1)).toNat) AV.top))
   (br (decide ((0:Int)<=j)&&decide (j<(N:Int))) (br (decide ((0:Nat)+j.toNat<xs.length)&&okE (xs.getD ((0:Nat)+j.toNat) AV.top))
   (br (decide ((0:Int)<=j)&&decide (j<(N:Int))) (br (decide ((0:Nat)+j.toNat<xs.length)) (br (decide ((0:Int)<=IntKind.i64.wrap (j - 1))&&decide (IntKind.i64.wrap (j - 1)<(N:Int)))
   (br (decide ((0:Nat)+(IntKind.i64.wrap (j - 1)).toNat<(xs.set ((0:Nat)+j.toNat) (ldE (xs.getD ((0:Nat)+(IntKind.i64.wrap (j - 1)).toNat) AV.top))).length))
    (some (.inl (IntKind.i64.wrap (j - 1),(xs.set ((0:Nat)+j.toNat) (ldE (xs.getD ((0:Nat)+(IntKind.i64.wrap (j - 1)).toNat) AV.top))).set ((0:Nat)+(IntKind.i64.wrap (j - 1)).toNat) (ldE (xs.getD ((0:Nat)+j.toNat) AV.top)))))
    none) none) none) none) none) none) none) none) (some (.inr xs))) none) none) none) none) none) (some (.inr xs)))
  {j:Nat} {l r:List α} (hl:LOk N ok l) (hr:Iter (xF4 c a) (j,l)=some r):Iter g ((j:Int),List.map enc l)=some (List.map enc r)/\LOk N ok r:=by
 refine xg2 (I:=fun s=>LOk N ok s.2) (J:=LOk N ok) (e:=fun s=>((s.1:Int),List.map enc s.2)) (f:=List.map enc) ?_ (s:=(j,l)) hl hr
 rintro ⟨j,l⟩ (hl:LOk N ok l);have U:l.length=N:=hl.len;by_cases ha:a<j
 . cases hx:l[j]? with
   | none=>exact xeJ (by simp [xF4,ha,hx])
   | some x =>
    cases hy:l[j - 1]? with
    | none=>exact xeJ (by simp [xF4,ha,hx,hy])
    | some y =>
     have hj:=xjR hx;have Q:=xjR hy;have w1:IntKind.i64.wrap ((j:Int) - 1)=((j - 1:Nat):Int):=w64 (by omega) (by omega)
     obtain ⟨c1,c2⟩:=hc x y (hl.ok _ (xd4 hx)) (hl.ok _ (xd4 hy));have k1:(j:Int)<(N:Int):=by omega
     have k2:((j - 1:Nat):Int)<(N:Int):=by omega
     have k3:(j:Int)>(a:Int):=by omega
     have k4:j<(List.map enc l).length:=by simpa using hj
     have k5:j - 1<(List.map enc l).length:=by simpa using Q
     by_cases O:c x y<0
     . have hp:xF4 c a (j,l)=some (.inl (j - 1,(l.set j y).set (j - 1) x)):=by simp [xF4,ha,hx,hy,O]
       have q:g ((j:Int),List.map enc l)=some (.inl (((j - 1:Nat):Int),List.map enc ((l.set j y).set (j - 1) x))):=by
        rw [hg];simp only [w1,zN,zH,gR hx,gR hy,he,hd,c1,c2,setR,O,k1,k2,k3,k4,k5,zn,zS,xaL,Int.natCast_nonneg,za,y2,hj,Q,sUF]
       exact xkZ hp q (hl.set2 (xd4 hx) (xd4 hy))
     . have hp:xF4 c a (j,l)=some (.inr l):=by simp [xF4,ha,hx,hy,O]
       have q:g ((j:Int),List.map enc l)=some (.inr (List.map enc l)):=by
        rw [hg];simp only [w1,zN,zH,gR hx,gR hy,he,hd,c1,c2,setR,O,k1,k2,k3,k4,k5,zn,zm,zS,xaL,xaK,Int.natCast_nonneg,sUF]
       exact xkQ hp q hl
 . have hp:xF4 c a (j,l)=some (.inr l):=by simp [xF4,ha]
   have k3:¬ ((j:Int)>(a:Int)):=by omega
   have q:g ((j:Int),List.map enc l)=some (.inr (List.map enc l)):=by
    rw [hg];simp only [k3,zm,xaK,sUF]
   exact xkQ hp q hl
def xchK {T:Type} (okE:AV->Bool) (ldE:AV->AV) (N:Nat) (u v:Int) (xs:List AV) (δ:T) (κ:List AV->T):T :=
 br (decide ((0:Int)<=v)&&decide (v<(N:Int))) (br (decide ((0:Nat)+v.toNat<xs.length)&&okE (xs.getD ((0:Nat)+v.toNat) AV.top))
 (br (decide ((0:Int)<=u)&&decide (u<(N:Int))) (br (decide ((0:Nat)+u.toNat<xs.length)&&okE (xs.getD ((0:Nat)+u.toNat) AV.top))
 (br (decide ((0:Int)<=u)&&decide (u<(N:Int))) (br (decide ((0:Nat)+u.toNat<xs.length)) (br (decide ((0:Int)<=v)&&decide (v<(N:Int)))
 (br (decide ((0:Nat)+v.toNat<(xs.set ((0:Nat)+u.toNat) (ldE (xs.getD ((0:Nat)+v.toNat) AV.top))).length))
  (κ ((xs.set ((0:Nat)+u.toNat) (ldE (xs.getD ((0:Nat)+v.toNat) AV.top))).set ((0:Nat)+v.toNat) (ldE (xs.getD ((0:Nat)+u.toNat) AV.top))))
  δ) δ) δ) δ) δ) δ) δ) δ
theorem xwX {T:Type} {N:Nat} (he:∀ a,okE (enc a)=true) (hd:∀ a,ldE (enc a)=enc a)  {l:List α} (hl:l.length=N) {i j:Nat} {x y:α} (hx:l[i]?=some x) (hy:l[j]?=some y) {δ:T} {κ:List AV->T}:xchK okE ldE N (i:Int) (j:Int) (List.map enc l) δ κ=κ (List.map enc ((l.set i y).set j x)):=by
 have h1:=xjR hx;have h2:=xjR hy;have k1:(i:Int)<(N:Int):=by omega
 have k2:(j:Int)<(N:Int):=by omega
 have k4:i<(List.map enc l).length:=by simpa using h1
 have k5:j<(List.map enc l).length:=by simpa using h2
 unfold xchK;simp only [zN,zH,gR hx,gR hy,he,hd,setR,k1,k2,k4,k5,zn,zS,xaL,Int.natCast_nonneg,za,y2,h1,h2,sUF]
theorem xD9 {N:Nat} (he:∀ a,okE (enc a)=true) (hd:∀ a,ldE (enc a)=enc a) (hN:N<=2 ^ 60) {ok:α->Prop} {g:Int×List AV->Option ((Int×List AV)⊕List AV)} (a b n:Nat) (ha:a<=2 ^ 60) (hb:b<=2 ^ 60) (hn:n<=2 ^ 60)
  (hg:∀ (i:Int) (xs:List AV),g (i,xs)=br (decide (i<(n:Int))) (xchK okE ldE N (IntKind.i64.wrap ((a:Int)+i)) (IntKind.i64.wrap ((b:Int)+i)) xs none fun ys=>some (.inl (IntKind.i64.wrap (i+1),ys))) (some (.inr xs)))
  {l r:List α} (hl:LOk N ok l) (hr:swr a b n l=some r):Iter g ((0:Int),List.map enc l)=some (List.map enc r)/\LOk N ok r:=by
 refine xg2 (I:=fun s=>LOk N ok s.2) (J:=LOk N ok) (e:=fun s=>((s.1:Int),List.map enc s.2)) (f:=List.map enc) ?_ (s:=(0,l)) hl hr
 rintro ⟨i,l⟩ (hl:LOk N ok l);by_cases hi:i<n
 . cases hx:l[a+i]? with
   | none=>exact xeJ (by simp [xGj,hi,hx])
   | some x =>
    cases hy:l[b+i]? with
    | none=>exact xeJ (by simp [xGj,hi,hx,hy])
    | some y =>
     refine xkZ (s0:=(i+1,(l.set (a+i) y).set (b+i) x)) (by simp [xGj,hi,hx,hy]) ?_ (hl.set2 (xd4 hx) (xd4 hy))
     rw [hg,show decide ((i:Int)<(n:Int))=true by simp [hi],xaL,w64 (n:=a+i) (by omega) (by omega),w64 (n:=b+i) (by omega) (by omega),xwX he hd hl.len hx hy,w64 (n:=i+1) (by omega) (by omega)]
 . refine xkQ (r0:=l) (by simp [xGj,hi]) ?_ hl
   rw [hg,show decide ((i:Int)<(n:Int))=false by simp;omega,xaK]
theorem xFf {N:Nat} (he:∀ a,okE (enc a)=true) (hd:∀ a,ldE (enc a)=enc a) (hN:N<=2 ^ 60) {ok:α->Prop} {g:Int×List AV->Option ((Int×List AV)⊕List AV)} (e i:Nat) (hi:i=e+1) (q:e<=2 ^ 60)
  (hg:∀ (k:Int) (xs:List AV),g (k,xs)=br (decide (k<IntKind.i64.wrap ((i:Int) - 1))) (xchK okE ldE N k (IntKind.i64.wrap (k+1)) xs none fun ys=>some (.inl (IntKind.i64.wrap (k+1),ys))) (some (.inr xs)))
  {k:Nat} {l r:List α} (hl:LOk N ok l) (hr:Iter (xGm e) (k,l)=some r):Iter g ((k:Int),List.map enc l)=some (List.map enc r)/\LOk N ok r:=by
 refine xg2 (I:=fun s=>LOk N ok s.2) (J:=LOk N ok) (e:=fun s=>((s.1:Int),List.map enc s.2)) (f:=List.map enc) ?_ (s:=(k,l)) hl hr
 rintro ⟨k,l⟩ (hl:LOk N ok l);have we:IntKind.i64.wrap ((i:Int) - 1)=(e:Int):=w64 (by omega) (by omega)
 by_cases hk:k<e
 . cases hx:l[k]? with
   | none=>exact xeJ (by simp [xGm,hk,hx])
   | some x =>
    cases hy:l[k+1]? with
    | none=>exact xeJ (by simp [xGm,hk,hx,hy])
    | some y =>
     refine xkZ (s0:=(k+1,(l.set k y).set (k+1) x)) (by simp [xGm,hk,hx,hy]) ?_ (hl.set2 (xd4 hx) (xd4 hy))
     rw [hg,we,show decide ((k:Int)<(e:Int))=true by simp [hk],xaL,w64 (n:=k+1) (by omega) (by omega),xwX he hd hl.len hx hy]
 . refine xkQ (r0:=l) (by simp [xGm,hk]) ?_ hl
   rw [hg,we,show decide ((k:Int)<(e:Int))=false by simp;omega,xaK]
theorem xCV {N:Nat} (he:∀ a,okE (enc a)=true) (hd:∀ a,ldE (enc a)=enc a) (hN:N<=2 ^ 60) {ok:α->Prop} {g:Int×List AV->Option ((Int×List AV)⊕List AV)} (e:Nat)
  (hg:∀ (k:Int) (xs:List AV),g (k,xs)=br (decide (k>(e:Int))) (xchK okE ldE N k (IntKind.i64.wrap (k - 1)) xs none fun ys=>some (.inl (IntKind.i64.wrap (k - 1),ys))) (some (.inr xs)))
  {k:Nat} {l r:List α} (hl:LOk N ok l) (hr:Iter (xGa e) (k,l)=some r):Iter g ((k:Int),List.map enc l)=some (List.map enc r)/\LOk N ok r:=by
 refine xg2 (I:=fun s=>LOk N ok s.2) (J:=LOk N ok) (e:=fun s=>((s.1:Int),List.map enc s.2)) (f:=List.map enc) ?_ (s:=(k,l)) hl hr
 rintro ⟨k,l⟩ (hl:LOk N ok l);by_cases hk:e<k
 . cases hx:l[k]? with
   | none=>exact xeJ (by simp [xGa,hk,hx])
   | some x =>
    cases hy:l[k - 1]? with
    | none=>exact xeJ (by simp [xGa,hk,hx,hy])
    | some y =>
     have q:=hl.len;have:=xjR hx;refine xkZ (s0:=(k - 1,(l.set k y).set (k - 1) x)) (by simp [xGa,hk,hx,hy]) ?_ (hl.set2 (xd4 hx) (xd4 hy))
     rw [hg,show decide ((k:Int)>(e:Int))=true by simp [hk],xaL,w64 (x:=(k:Int) - 1) (n:=k - 1) (by omega) (by omega),xwX he hd hl.len hx hy]
 . refine xkQ (r0:=l) (by simp [xGa,hk]) ?_ hl
   rw [hg,show decide ((k:Int)>(e:Int))=false by simp;omega,xaK]
def cmpK {T:Type} (okE:AV->Bool) (N:Nat) (P:AV->AV->Bool) (u v:Int) (xs:List AV) (δ:T) (κ:AV->AV->T):T :=
 br (decide ((0:Int)<=u)&&decide (u<(N:Int))) (br (decide ((0:Nat)+u.toNat<xs.length)&&okE (xs.getD ((0:Nat)+u.toNat) AV.top))
 (br (decide ((0:Int)<=v)&&decide (v<(N:Int))) (br (decide ((0:Nat)+v.toNat<xs.length)&&okE (xs.getD ((0:Nat)+v.toNat) AV.top))
 (br (P (xs.getD ((0:Nat)+u.toNat) AV.top) (xs.getD ((0:Nat)+v.toNat) AV.top))
  (κ (xs.getD ((0:Nat)+u.toNat) AV.top) (xs.getD ((0:Nat)+v.toNat) AV.top)) δ) δ) δ) δ) δ
theorem xDE {T:Type} {N:Nat} (he:∀ a,okE (enc a)=true)  {P:AV->AV->Bool} {l:List α} (hl:l.length=N) {i j:Nat} {x y:α} (hx:l[i]?=some x) (hy:l[j]?=some y) (hP:P (enc x) (enc y)=true) {δ:T} {κ:AV->AV->T}:cmpK okE N P (i:Int) (j:Int) (List.map enc l) δ κ=κ (enc x) (enc y):=by
 have h1:=xjR hx;have h2:=xjR hy;have k1:(i:Int)<(N:Int):=by omega
 have k2:(j:Int)<(N:Int):=by omega
 have k4:i<(List.map enc l).length:=by simpa using h1
 have k5:j<(List.map enc l).length:=by simpa using h2
 unfold cmpK;simp only [zN,zH,gR hx,gR hy,he,hP,k1,k2,k4,k5,zn,zS,xaL,Int.natCast_nonneg,sUF]
def xGE (i j:Int):Int:=IntKind.i64.wrap ((IntKind.u64.wrap (IntKind.i64.wrap (i+j))).fdiv 2)
theorem xwK {N:Nat} (he:∀ a,okE (enc a)=true) (hN:N<=2 ^ 60) {ok:α->Prop} {c:α->α->Int} {P:AV->AV->Bool} {V:AV->AV->Int} (hc:∀ x y,ok x->ok y->P (enc x) (enc y)=true/\V (enc x) (enc y)=c x y)
  {g:Int×Int×List AV->Option ((Int×Int×List AV)⊕(Int×List AV))} (u v:Nat->Nat) (U V':Int->Int) (lo hi:Nat) (Z:hi<=2 ^ 61) (hu:∀ h,lo<=h->h<hi->U (h:Int)=(u h:Int)) (hv:∀ h,lo<=h->h<hi->V' (h:Int)=(v h:Int)) (t:Int->Bool)
  (hg:∀ (i j:Int) (xs:List AV),g (i,j,xs)=br (decide (i<j)) (cmpK okE N P (U (xGE i j)) (V' (xGE i j)) xs none fun X Y=>br (t (V X Y)) (some (.inl (IntKind.i64.wrap (xGE i j+1),j,xs))) (some (.inl (i,xGE i j,xs)))) (some (.inr (i,xs))))
  {l:List α} (hl:LOk N ok l) {i j r:Nat} (h1:lo<=i) (h2:j<=hi) (h3:i<=hi) (hr:Iter (xF6 fun h=>(get2 c l (u h) (v h)).map t) (i,j)=some r):Iter g ((i:Int),(j:Int),List.map enc l)=some ((r:Int),List.map enc l)/\lo<=r/\r<=hi:=by
 refine xg2 (I:=fun s=>lo<=s.1/\s.2<=hi/\s.1<=hi) (J:=fun r=>lo<=r/\r<=hi) (e:=fun (s:Nat×Nat)=>((s.1:Int),(s.2:Int),List.map enc l)) (f:=fun (r:Nat)=>((r:Int),List.map enc l)) ?_ (s:=(i,j)) ⟨h1,h2,h3⟩ hr
 rintro ⟨i,j⟩ ⟨h1,h2,h3⟩;dsimp only at h1 h2 h3;by_cases q:i<j
 . have hh:xGE (i:Int) (j:Int)=(((i+j) / 2:Nat):Int):=xGL (by omega)
   have b1:lo<=(i+j) / 2:=by omega
   have b2:(i+j) / 2<hi:=by omega
   have O:decide ((i:Int)<(j:Int))=true:=by simp [q]
   cases hx:l[u ((i+j) / 2)]? with
   | none=>exact xeJ (by simp [xF6,q,get2,hx])
   | some x =>
    cases hy:l[v ((i+j) / 2)]? with
    | none=>exact xeJ (by simp [xF6,q,get2,hx,hy])
    | some y =>
     obtain ⟨c1,c2⟩:=hc x y (hl.ok _ (xd4 hx)) (hl.ok _ (xd4 hy));have Q:=hg (i:Int) (j:Int) (List.map enc l);rw [O,xaL,hh,hu _ b1 b2,hv _ b1 b2,xDE he hl.len hx hy c1,c2] at Q;cases ht:t (c x y) with
     | true =>
      rw [ht,xaL,w64 (n:=(i+j) / 2+1) (by omega) (by omega)] at Q
      exact xkZ (s0:=((i+j) / 2+1,j)) (by simp [xF6,q,get2,hx,hy,ht]) Q ⟨by dsimp only;omega,h2,by dsimp only;omega⟩
     | false =>
      rw [ht,xaK] at Q;exact xkZ (s0:=(i,(i+j) / 2)) (by simp [xF6,q,get2,hx,hy,ht]) Q ⟨h1,by dsimp only;omega,h3⟩
 . have O:decide ((i:Int)<(j:Int))=false:=by simp;omega
   refine xkQ (r0:=i) (by simp [xF6,q]) ?_ ⟨h1,h3⟩
   rw [hg,O,xaK]
theorem xD8 {N:Nat} (hN:N<=2 ^ 60) {ok:α->Prop} {SW:Int->Int->Int->List AV->Option (List AV)} (q:∀ (a b n:Nat) (l r:List α),a<=2 ^ 60->b<=2 ^ 60->n<=2 ^ 60->LOk N ok l->swr a b n l=some r->SW a b n (List.map enc l)=some (List.map enc r)/\LOk N ok r)
  {g:Int×Int×List AV->Option ((Int×Int×List AV)⊕(Int×List AV))} (m:Nat) (hm:m<=N)
  (hg:∀ (i j:Int) (xs:List AV),g (i,j,xs)=br (i != j) (br (decide (i>j)) (br (SW (IntKind.i64.wrap ((m:Int) - i)) m j xs).isSome (some (.inl (IntKind.i64.wrap (i - j),j,(SW (IntKind.i64.wrap ((m:Int) - i)) m j xs).getD []))) none)
   (br (SW (IntKind.i64.wrap ((m:Int) - i)) (IntKind.i64.wrap (IntKind.i64.wrap ((m:Int)+j) - i)) i xs).isSome (some (.inl (i,IntKind.i64.wrap (j - i),(SW (IntKind.i64.wrap ((m:Int) - i)) (IntKind.i64.wrap (IntKind.i64.wrap ((m:Int)+j) - i)) i xs).getD []))) none)) (some (.inr (i,xs))))
  {i j:Nat} {l l':List α} {i':Nat} (hi:i<=m) (hj:m+j<=N) (hl:LOk N ok l) (hr:Iter (xF8 m) (i,j,l)=some (i',l')):Iter g ((i:Int),(j:Int),List.map enc l)=some ((i':Int),List.map enc l')/\i'<=m/\LOk N ok l':=by
 refine xg2 (I:=fun s=>s.1<=m/\m+s.2.1<=N/\LOk N ok s.2.2) (J:=fun r=>r.1<=m/\LOk N ok r.2) (e:=fun (s:Nat×Nat×List α)=>((s.1:Int),(s.2.1:Int),List.map enc s.2.2)) (f:=fun (r:Nat×List α)=>((r.1:Int),List.map enc r.2)) ?_ (s:=(i,j,l)) ⟨hi,hj,hl⟩ hr
 rintro ⟨i,j,l⟩ ⟨hi,hj,hl⟩;dsimp only at hi hj hl;by_cases h1:i=j
 . subst h1;refine xkQ (r0:=(i,l)) (by simp [xF8]) ?_ ⟨hi,hl⟩
   rw [hg];simp [xaK,sUF]
 . have d1:((i:Int) != (j:Int))=true:=by simp;omega
   have w1:IntKind.i64.wrap ((m:Int) - (i:Int))=((m - i:Nat):Int):=w64 (by omega) (by omega)
   by_cases h2:j<i
   . cases hs:swr (m - i) m j l with
     | none=>exact xeJ (by simp [xF8,h1,h2,hs])
     | some l1 =>
      obtain ⟨e1,e2⟩:=q (m - i) m j l l1 (by omega) (by omega) (by omega) hl hs
      refine xkZ (s0:=(i - j,j,l1)) (by simp [xF8,h1,h2,hs]) ?_ ⟨by dsimp only;omega,hj,e2⟩
      rw [hg,d1,xaL,show decide ((i:Int)>(j:Int))=true by simp [h2],xaL,w1,e1,w64 (x:=(i:Int) - (j:Int)) (n:=i - j) (by omega) (by omega)]
      rfl
   . cases hs:swr (m - i) (m+j - i) i l with
     | none=>exact xeJ (by simp [xF8,h1,h2,hs])
     | some l1 =>
      obtain ⟨e1,e2⟩:=q (m - i) (m+j - i) i l l1 (by omega) (by omega) (by omega) hl hs
      refine xkZ (s0:=(i,j - i,l1)) (by simp [xF8,h1,h2,hs]) ?_ ⟨hi,by dsimp only;omega,e2⟩
      rw [hg,d1,xaL,show decide ((i:Int)>(j:Int))=false by simp;omega,xaK,w1,w64 (x:=(m:Int)+(j:Int)) (n:=m+j) (by omega) (by omega),w64 (x:=((m+j:Nat):Int) - (i:Int)) (n:=m+j - i) (by omega) (by omega),e1,w64 (x:=(j:Int) - (i:Int)) (n:=j - i) (by omega) (by omega)]
      rfl
theorem xwL {N:Nat} (hN:N<=2 ^ 60) {ok:α->Prop} {c:α->α->Int} (a b:Nat) (hb:b<=N) {gi:Int->Int×List AV->Option ((Int×List AV)⊕List AV)}
  (hi:∀ (i:Nat) (l r:List α),LOk N ok l->Iter (xF4 c a) (i,l)=some r->Iter (gi i) ((i:Int),List.map enc l)=some (List.map enc r)/\LOk N ok r)
  {g:Int×List AV->Option ((Int×List AV)⊕List AV)}
  (hg:∀ (i:Int) (xs:List AV),g (i,xs)=br (decide (i<(b:Int))) (br (Iter (gi i) (i,xs)).isSome (some (.inl (IntKind.i64.wrap (i+1),(Iter (gi i) (i,xs)).getD []))) none) (some (.inr xs)))
  {i:Nat} {l r:List α} (hl:LOk N ok l) (hr:Iter (xGf c a b) (i,l)=some r):Iter g ((i:Int),List.map enc l)=some (List.map enc r)/\LOk N ok r:=by
 refine xg2 (I:=fun s=>LOk N ok s.2) (J:=LOk N ok) (e:=fun s=>((s.1:Int),List.map enc s.2)) (f:=List.map enc) ?_ (s:=(i,l)) hl hr
 rintro ⟨i,l⟩ (hl:LOk N ok l);by_cases h:i<b
 . cases hs:Iter (xF4 c a) (i,l) with
   | none=>exact xeJ (by simp [xGf,h,hs])
   | some l1 =>
    obtain ⟨e1,e2⟩:=hi i l l1 hl hs;refine xkZ (s0:=(i+1,l1)) (by simp [xGf,h,hs]) ?_ e2
    rw [hg,show decide ((i:Int)<(b:Int))=true by simp [h],xaL,e1,w64 (x:=(i:Int)+1) (n:=i+1) (by omega) (by omega)]
    rfl
 . refine xkQ (r0:=l) (by simp [xGf,h]) ?_ hl
   rw [hg,show decide ((i:Int)<(b:Int))=false by simp;omega,xaK]
theorem xwM {N:Nat} (hN:N<=2 ^ 60) {ok:α->Prop} (w:Nat) (hw:w<=2 ^ 61) {p:Nat×Nat×List α->Option ((Nat×Nat×List α)⊕(Nat×List α))} {F:Nat->Nat->List α->Option (List α)} (q:∀ a b l l',b<=N->F a b l=some l'->p (a,b,l)=some (.inl (b,b+w,l'))) (Q:∀ a b l,b<=N->F a b l=none->p (a,b,l)=none) (O:∀ a b l,¬ b<=N->p (a,b,l)=some (.inr (a,l)))
  {G:Int->Int->List AV->Option (List AV)} (hF:∀ (a b:Nat) (l r:List α),a<=b->b=a+w->b<=N->LOk N ok l->F a b l=some r->G a b (List.map enc l)=some (List.map enc r)/\LOk N ok r)
  {g:Int×Int×List AV->Option ((Int×Int×List AV)⊕(Int×List AV))}
  (hg:∀ (a b:Int) (xs:List AV),g (a,b,xs)=br (decide (b<=(N:Int))) (br (G a b xs).isSome (some (.inl (b,IntKind.i64.wrap (b+(w:Int)),(G a b xs).getD []))) none) (some (.inr (a,xs))))
  {l l':List α} {a a':Nat} (hl:LOk N ok l) (hr:Iter p (a,a+w,l)=some (a',l')) (ha:a<=N):Iter g ((a:Int),((a+w:Nat):Int),List.map enc l)=some ((a':Int),List.map enc l')/\a'<=N/\N<a'+w/\LOk N ok l':=by
 refine xg2 (I:=fun s=>s.1<=N/\s.2.1=s.1+w/\LOk N ok s.2.2) (J:=fun r=>r.1<=N/\N<r.1+w/\LOk N ok r.2) (e:=fun (s:Nat×Nat×List α)=>((s.1:Int),(s.2.1:Int),List.map enc s.2.2)) (f:=fun (r:Nat×List α)=>((r.1:Int),List.map enc r.2)) ?_ (s:=(a,a+w,l)) ⟨ha,rfl,hl⟩ hr
 rintro ⟨a,b,l⟩ ⟨h1,h2,hl⟩;dsimp only at h1 h2 hl;by_cases h:b<=N
 . cases hs:F a b l with
   | none=>exact xeJ (Q _ _ _ h hs)
   | some l1 =>
    obtain ⟨e1,e2⟩:=hF a b l l1 (by omega) h2 h hl hs
    refine xkZ (s0:=(b,b+w,l1)) (q _ _ _ _ h hs) ?_ ⟨h,rfl,e2⟩;rw [hg,show decide ((b:Int)<=(N:Int))=true by simp [h],xaL,e1,w64 (x:=(b:Int)+(w:Int)) (n:=b+w) (by omega) (by omega)]
    rfl
 . refine xkQ (r0:=(a,l)) (O _ _ _ h) ?_ ⟨h1,by dsimp only;omega,hl⟩
   rw [hg,show decide ((b:Int)<=(N:Int))=false by simp;omega,xaK]
end
end Go.Sim.M
end
noncomputable section
set_option maxRecDepth 100000
namespace Go.Sim.M
open Go.RowKit Go.Sim.Srt
def xGn (l:List Row):Prop:=l.length<=1048576/\∀ x,x∈l->x.length<=1048576
theorem xGn.perm {l l':List Row} (h:xGn l) (hp:l'.Perm l):xGn l':=⟨by rw [hp.length_eq];exact h.1,fun x hx=>h.2 x (hp.mem_iff.1 hx)⟩
theorem xza {n f:Nat} (h:n<=1048576) (hf:20<=f):n<=2 ^ f:=Nat.le_trans h (Nat.pow_le_pow_right (n:=2) (by omega) hf:2 ^ 20<=2 ^ f)
theorem xAS (x y:Row) (hx:x.length<=maxLen):xmy (x.map encV) (y.map encV) []=some (decide (cmpR x y<0)):=by
 have h:Iter (xdm (x.map encV) (y.map encV) []) (0:Int)=some (false,false,()):=xaN (by
  simp only [xdm,xkL,List.length_nil,sUF];rfl)
 unfold xmy xnt;rw [h,xkz x y hx];rfl
theorem xBt (a b:List Row) (ha:a.length+b.length<=1048576) (Z:∀ x,x∈a->x.length<=1048576) (V:∀ x,x∈b->x.length<=1048576) (sa:Sorted (cmpR) a) (sb:Sorted (cmpR) b) :
  ∀ (n i k:Nat) (D:List Row),(a.length - i)+(b.length - k)=n->i<=a.length->k<=b.length->D.length=i+k ->
   ∃ r,Iter (xbv (List.map encR a) (List.map encR b) []) (D.length,(i:Int),(k:Int),List.map encR D)=some (a.length+b.length,List.map encR (D++r))/\r.Perm (a.drop i++b.drop k)/\Sorted (cmpR) r:=by
 intro n;induction n with
 | zero =>
  intro i k D hn hi hk hD;have h1:¬ (i:Int)<(a.length:Int):=by omega
  have h2:¬ (k:Int)<(b.length:Int):=by omega
  refine ⟨[],xaN ?_,?_,by simp [Sorted]⟩
  . simp only [xbv,xdK,xcC,xcD,xcE,xc8,xc9,xda,xdb,  za,xby,h1,h2,zm,zT,if_false,zD,sUF];rw [show D.length=a.length+b.length by omega]
  . rw [zq (by omega),zq (by omega)];exact List.Perm.refl _
 | succ n ih =>
  intro i k D hn hi hk hD;have Y:(List.map encR D).length=D.length:=by simp
  have m1:(D.length+1)*24<=140737488355328:=by omega
  have m2:D.length+1<=4611686018427387904:=by omega
  have snoc:∀ x:Row,List.map encR D++[AV.list 3 (x.map encV)]=List.map encR (D++[x]):=fun x=>by simp [encR]
  have wi:=xnF (n:=i) (show i+1<=maxLen by unfold maxLen;omega)
  have wk:=xnF (n:=k) (show k+1<=maxLen by unfold maxLen;omega)
  by_cases J:i<a.length
  . have i1:(i:Int)<(a.length:Int):=by omega
    have i2:((i:Int)==(a.length:Int))=false:=by simp;omega
    have hx:a[i]?=some a[i]:=by simp [J]
    by_cases q:k<b.length
    . have k1:(k:Int)<(b.length:Int):=by omega
      have hy:b[k]?=some b[k]:=by simp [q]
      have e:=xAS b[k] a[i] (by have:=V b[k] (zo q);unfold maxLen;omega)
      by_cases hc:cmpR b[k] a[i]<0
      . obtain ⟨r,h1,h2,h3⟩:=ih i (k+1) (D++[b[k]]) (by omega) hi (by omega) (by simp;omega)
        refine ⟨b[k]::r,?_,?_,?_⟩
        . refine xax (s':=((D++[b[k]]).length,(i:Int),((k+1:Nat):Int),List.map encR (D++[b[k]]))) ?_ (by rw [h1];simp)
          simp only [xbv,xdK,xcC,xcD,xcE,xc8,xc9,xda,xdb,  za,xby,i1,i2,k1,J,q,zn,zT,if_false,if_true,zN,gR hx,gR hy,cR0,sR0,e,zk,zh,hc,Int.natCast_nonneg,zS,beq_self_eq_true,m1,m2,snoc,wk,sUF];simp
        . rw [xa7 q];exact (h2.cons _).trans List.perm_middle.symm
        . refine zM.2 ⟨fun z hz=>?_,h3⟩
          rcases zG.1 (h2.mem_iff.1 hz) with hz|hz
          . rw [xa7 J] at hz;rcases zC.1 hz with rfl|hz
            . omega
            . obtain ⟨j,hj,rfl⟩:=zp.1 hz;have Q:i+1+j<a.length:=by simp at hj;omega
              have:=xbm sa (i:=i) (j:=i+1+j) (by omega) Q
              rw [List.getElem_drop];exact xpH.trans _ _ _ (Int.le_of_lt hc) this
          . obtain ⟨j,hj,rfl⟩:=zp.1 hz;have O:k+1+j<b.length:=by simp at hj;omega
            rw [List.getElem_drop];exact xbm sb (i:=k) (j:=k+1+j) (by omega) O
      . obtain ⟨r,h1,h2,h3⟩:=ih (i+1) k (D++[a[i]]) (by omega) (by omega) hk (by simp;omega)
        refine ⟨a[i]::r,?_,?_,?_⟩
        . refine xax (s':=((D++[a[i]]).length,((i+1:Nat):Int),(k:Int),List.map encR (D++[a[i]]))) ?_ (by rw [h1];simp)
          simp only [xbv,xdK,xcC,xcD,xcE,xc8,xc9,xda,xdb,  za,xby,i1,i2,k1,J,q,zn,zT,if_false,if_true,zN,gR hx,gR hy,cR0,sR0,e,zk,zh,hc,zm,Int.natCast_nonneg,zS,beq_self_eq_true,m1,m2,snoc,wi,sUF];simp
        . rw [xa7 J];exact h2.cons _
        . refine zM.2 ⟨fun z hz=>?_,h3⟩
          have U:cmpR a[i] b[k]<=0:=xpH.ord.le_of_not hc;rcases zG.1 (h2.mem_iff.1 hz) with hz|hz
          . obtain ⟨j,hj,rfl⟩:=zp.1 hz;have Q:i+1+j<a.length:=by simp at hj;omega
            rw [List.getElem_drop];exact xbm sa (i:=i) (j:=i+1+j) (by omega) Q
          . rw [xa7 q] at hz;rcases zC.1 hz with rfl|hz
            . exact U
            . obtain ⟨j,hj,rfl⟩:=zp.1 hz;have O:k+1+j<b.length:=by simp at hj;omega
              rw [List.getElem_drop];exact xpH.trans _ _ _ U (xbm sb (i:=k) (j:=k+1+j) (by omega) O)
    . have k1:¬ (k:Int)<(b.length:Int):=by omega
      obtain ⟨r,h1,h2,h3⟩:=ih (i+1) k (D++[a[i]]) (by omega) (by omega) hk (by simp;omega)
      refine ⟨a[i]::r,?_,?_,?_⟩
      . refine xax (s':=((D++[a[i]]).length,((i+1:Nat):Int),(k:Int),List.map encR (D++[a[i]]))) ?_ (by rw [h1];simp)
        simp only [xbv,xdK,xcC,xcD,xcE,xc8,xc9,xda,xdb,  za,xby,i1,i2,k1,J,zn,zm,zT,if_false,if_true,zN,gR hx,cR0,sR0,Int.natCast_nonneg,zS,beq_self_eq_true,m1,m2,snoc,wi,sUF];simp
      . rw [xa7 J];exact h2.cons _
      . refine zM.2 ⟨fun z hz=>?_,h3⟩
        rw [zq (show b.length<=k by omega),zD] at h2
        obtain ⟨j,hj,rfl⟩:=zp.1 (h2.mem_iff.1 hz);have Q:i+1+j<a.length:=by simp at hj;omega
        rw [List.getElem_drop];exact xbm sa (i:=i) (j:=i+1+j) (by omega) Q
  . have i1:¬ (i:Int)<(a.length:Int):=by omega
    have q:k<b.length:=by omega
    have k1:(k:Int)<(b.length:Int):=by omega
    have i2:((i:Int)==(a.length:Int))=true:=by simp;omega
    have hy:b[k]?=some b[k]:=by simp [q]
    obtain ⟨r,h1,h2,h3⟩:=ih i (k+1) (D++[b[k]]) (by omega) hi (by omega) (by simp;omega)
    refine ⟨b[k]::r,?_,?_,?_⟩
    . refine xax (s':=((D++[b[k]]).length,(i:Int),((k+1:Nat):Int),List.map encR (D++[b[k]]))) ?_ (by rw [h1];simp)
      simp only [xbv,xdK,xcC,xcD,xcE,xc8,xc9,xda,xdb,  za,xby,i1,i2,k1,q,zn,zm,zT,if_false,if_true,zN,gR hy,cR0,sR0,Int.natCast_nonneg,zS,beq_self_eq_true,m1,m2,snoc,wk,sUF];simp
    . rw [xa7 q];exact (h2.cons _).trans List.perm_middle.symm
    . refine zM.2 ⟨fun z hz=>?_,h3⟩
      rw [zq (show a.length<=i by omega),zU] at h2
      obtain ⟨j,hj,rfl⟩:=zp.1 (h2.mem_iff.1 hz);have O:k+1+j<b.length:=by simp at hj;omega
      rw [List.getElem_drop];exact xbm sb (i:=k) (j:=k+1+j) (by omega) O
theorem xBu (a b:List Row) (ha:a.length+b.length<=1048576) (q:∀ x,x∈a->x.length<=1048576) (J:∀ x,x∈b->x.length<=1048576) (sa:Sorted cmpR a) (sb:Sorted cmpR b) :
  ∃ r,xpd (a.map encR) (b.map encR) []=some (r.map encR)/\r.Perm (a++b)/\Sorted cmpR r:=by
 obtain ⟨r,h1,h2,h3⟩:=xBt a b ha q J sa sb _ 0 0 [] rfl (zQ _) (zQ _) rfl;simp only [zr,zU] at h1 h2;have h1':Iter (xbv (a.map encR) (b.map encR) []) (0,(0:Int),(0:Int),[])=some (r.length,r.map encR):=by
  rw [h2.length_eq,z8];exact h1
 refine ⟨r,?_,h2,h3⟩;unfold xpd xnu;simp only [xmz,xmA,xmB,xmC,h1',sOO,sUF]
theorem xBQ:∀ (f:Nat) (l:List Row),l.length<=2 ^ f->xGn l->∃ r,xb5 (f+1) (List.map encR l) []=some (List.map encR r)/\r.Perm l/\Sorted (cmpR) r:=by
 intro f;induction f with
 | zero =>
  intro l hl hs;match l,hl with
  | [],_=>exact ⟨[],by simp [xb5,xb9,xeO,xby,sUF],List.Perm.refl _,by simp [Sorted]⟩
  | [x],_ =>
   have hx:=hs.2 x (by simp)
   refine ⟨[x],?_,List.Perm.refl _,by simp [Sorted]⟩
   have m1:x.length*32<=140737488355328:=by omega
   have m2:x.length<=4611686018427387904:=by omega
   show xb9 (xb5 0) (List.map encR [x]) []=_;simp [xb9,xeO,xif,xig,xfb,xih,  xby,xG1,encR,m1,m2,AV.toList,AV.cells,sUF];exact zi (by simp)
 | succ f ih =>
  intro l hl hs;by_cases h2:l.length<=1
  . match l,h2 with
    | [],_=>exact ⟨[],by show xb9 (xb5 (f+1)) (List.map encR []) []=_;simp [xb9,xeO,xby,sUF],List.Perm.refl _,by simp [Sorted]⟩
    | [x],_ =>
     have hx:=hs.2 x (by simp)
     refine ⟨[x],?_,List.Perm.refl _,by simp [Sorted]⟩
     have m1:x.length*32<=140737488355328:=by omega
     have m2:x.length<=4611686018427387904:=by omega
     show xb9 (xb5 (f+1)) (List.map encR [x]) []=_;simp [xb9,xeO,xif,xig,xfb,xih,  xby,xG1,encR,m1,m2,AV.toList,AV.cells,sUF];exact zi (by simp)
  . have hp:2 ^ (f+1)=2*2 ^ f:=by rw [Nat.pow_succ];omega
    have q:=hs.1;obtain ⟨m,hm⟩:∃ m,m=l.length / 2:=⟨_,rfl⟩;have st:xGn (l.take m):=⟨by simp;omega,fun x hx=>hs.2 x (List.mem_of_mem_take hx)⟩
    have sd:xGn (l.drop m):=⟨by simp;omega,fun x hx=>hs.2 x (List.mem_of_mem_drop hx)⟩
    obtain ⟨r1,e1,p1,s1⟩:=ih (l.take m) (by simp;omega) st
    obtain ⟨r2,e2,p2,s2⟩:=ih (l.drop m) (by simp;omega) sd
    have l1:=p1.length_eq;have l2:=p2.length_eq;simp only [zt,y1] at l1 l2;obtain ⟨r,a1,a3,a4⟩:=xBu r1 r2 (by omega) (fun x hx=>st.2 x (p1.mem_iff.1 hx)) (fun x hx=>sd.2 x (p2.mem_iff.1 hx)) s1 s2
    refine ⟨r,?_,a3.trans ((p1.append p2).trans (by rw [List.take_append_drop])),a4⟩
    have w:IntKind.i64.wrap ((l.length:Int).tdiv 2)=(m:Int):=by
     rw [Int.tdiv_eq_ediv_of_nonneg (by omega)]
     exact w64 (by omega) (by omega)
    have t1:List.take m (List.map encR l)=List.map encR (l.take m):=by simp
    have t2:List.take (l.length - m) (List.drop m (List.map encR l))=List.map encR (l.drop m):=by
     rw [zi (by simp)];simp
    have d0:((l.length:Int)==0)=false:=by simp;intro h;subst h;simp at h2
    have d1:((l.length:Int)==1)=false:=by simp;omega
    have d2:(m:Int)<=(l.length:Int):=by omega
    show xb9 (xb5 (f+1)) (List.map encR l) []=_;simp only [xb9,xeO,xif,xig,xfb,xih,  za,d0,d1,xaK,w,zN,Nat.sub_zero,zr,t1,t2,e1,e2,zk,zh,xaL,d2,zn,Int.natCast_nonneg,zS,a1,sUF]
theorem xCP (l:List Row) (h:xGn l):∃ r,xmw (l.map encR)=some (r.map encR)/\r.Perm l/\Sorted cmpR r:=by
 obtain ⟨r,e,p,s⟩:=(fun F (hF:20<=F)=>xBQ F l (xza h.1 hF) h) 999 (by decide)
 refine ⟨r,?_,p,s⟩;unfold xmw xpc;rw [e];rfl
deriving instance DecidableEq for Fc
theorem xDM {α:Type} [DecidableEq α] {step:Int->Option (Int⊕(Bool×Bool×Unit))} (a b:List α) (hl:a.length=b.length)
  (hs:∀ (n:Nat) (h1:n<a.length) (h2:n<b.length),step (n:Int)=if a[n]=b[n] then some (.inl ((n+1:Nat):Int)) else some (.inr (true,false,())))
  (he:step (a.length:Int)=some (.inr (false,false,()))):Iter step (0:Int)=some (if a=b then (false,false,()) else (true,false,())):=by
 have key:∀ d n:Nat,n+d=a.length->Iter step (n:Int)=some (if a.drop n=b.drop n then (false,false,()) else (true,false,())):=by
  intro d;induction d with
  | zero =>
   intro n h;have:n=a.length:=by omega
   subst this;rw [zq (zd _),zq (by omega)]
   exact xaN he
  | succ d ih =>
   intro n h;have h1:n<a.length:=by omega
   have h2:n<b.length:=by omega
   have:=hs n h1 h2;have e:a.drop n=b.drop n↔a[n]=b[n]/\a.drop (n+1)=b.drop (n+1):=by rw [xa7 h1,xa7 h2,List.cons.injEq]
   by_cases hc:a[n]=b[n]
   . rw [if_pos hc] at this;rw [xaV this,ih (n+1) (by omega)]
     by_cases hr:a.drop (n+1)=b.drop (n+1)
     . rw [if_pos hr,if_pos (e.2 ⟨hc,hr⟩)]
     . rw [if_neg hr,if_neg fun h=>hr (e.1 h).2]
   . rw [if_neg hc] at this;rw [xaN this,if_neg fun h=>hc (e.1 h).1]
 have:=key a.length 0 (by omega)
 simpa using this
theorem cV0 (v:Val):((encV v).cells.getD 0 .top).toInt=v.k:=rfl
theorem cV1 (v:Val):((encV v).cells.getD 1 .top).toInt=v.i:=rfl
theorem cV2 (v:Val):((encV v).cells.getD 2 .top).toStr=v.t:=rfl
theorem lV (v:Val):((encV v).cells.length==3)=true:=rfl
theorem sV (v:Val):xG8 [Sh.int .i64,Sh.int .i64,Sh.str] (encV v).cells 0=true:=rfl
theorem xEK (x y:Per):(x.1==y.1&&x.2==y.2)=decide (x=y):=by
 cases x;cases y;simp [Bool.decide_and,Bool.beq_eq_decide_eq]
theorem cmp0 (x y:Row):(cmpR x y==0)=decide (x=y):=by
 by_cases h:x=y
 . subst h;simp [xrl]
 . have:cmpR x y≠0:=fun e=>h (xlO e)
   simp [h,this]
theorem cmp1 (x y:Row):(cmpR x y != 0)=!decide (x=y):=by rw [<-cmp0];rfl
theorem xEL (x y:Fc):x=y↔x.r=y.r/\x.p=y.p:=by cases x;cases y;simp
theorem xpt (a b:List Fc) (hl:a.length=b.length) (ha:a.length<=1048576) (hr:∀ f,f∈a->f.r.length<=maxLen):Iter (xbL (a.map encF) (b.map encF)) (0:Int)=some (if a=b then (false,false,()) else (true,false,())):=by
 refine xDM a b hl (fun n h h2=>?_) ?_
 . have h1:(n:Int)<(a.length:Int):=by omega
   have h3:(n:Int)<(b.length:Int):=by omega
   have gf:(a.map encF).getD n .top=encF a[n]:=xaM _ _ _ h;have gg:(b.map encF).getD n .top=encF b[n]:=xaM _ _ _ h2;have hm:=hr a[n] (zo h);simp only [xbL,xga,sBU,h,h1,h2,h3,gf,gg,cF0,cF1,cF2,sF0,sF1,sF2,lF,sF12,sF02,xEK,xkz _ _ hm,cmp1,xF0 (n:=n) (by omega)]
   by_cases hp:a[n].p=b[n].p<;>by_cases hq:a[n].r=b[n].r<;>simp [hp,hq,xEL,xaL,xaK,sUF]
 . simp only [xbL,xga,za,zy,zm,xaK,sUF]
theorem xBO (a b:List Fc) (ha:a.length<=1048576) (hr:∀ f,f∈a->f.r.length<=maxLen):xjs (a.map encF) (b.map encF)=some (decide (a=b)):=by
 unfold xjs xkM;by_cases hl:a.length=b.length
 . simp only [za,hl,bne_self_eq_false,xaK,sUF];rw [xpt a b hl ha hr];by_cases h:a=b<;>simp [h,xaL,xaK,sUF]
 . have h:a≠b:=fun e=>hl (by rw [e])
   have h2:((a.length:Int) != (b.length:Int))=true:=by simp;omega
   simp [h,h2,xaL,sUF]
def atL (l:List Fc) (t:Int):List Row:=l.flatMap fun f=>if hasP f.p t=true then [f.r] else []
theorem xDr (l:List Fc) (t:Int):(atL l t).length<=l.length:=by
 have:=xjI (g:=fun f:Fc=>if hasP f.p t=true then [f.r] else []) (c:=1) l fun f _=>by split<;>simp
 unfold atL;omega
theorem xDs {l:List Fc} {t:Int} {r:Row} (h:r∈atL l t):∃ f,f∈l/\f.r=r/\hasP f.p t=true:=by
 obtain ⟨f,hf,h⟩:=y3.1 h;split at h
 . rename_i hp;simp only [zv] at h;exact ⟨f,hf,h.symm,hp⟩
 . simp at h
def Few (l:List Fc):Prop:=l.length<=1048576/\∀ f,f∈l->f.r.length<=1048576
theorem Few.at {l:List Fc} (h:Few l) (t:Int):xGn (atL l t):=⟨Nat.le_trans (xDr l t) h.1,fun x hx=>by obtain ⟨f,hf,rfl,_⟩:=xDs hx;exact h.2 f hf⟩
theorem xwa {α:Type} {step:Int->Option (Int⊕(Bool×Bool×Unit))} (l:List α) (p:α->Bool)
  (hs:∀ (k:Nat) (h:k<l.length),step (k:Int)=if p l[k]=true then some (.inl ((k+1:Nat):Int)) else some (.inr (true,false,())))
  (he:step (l.length:Int)=some (.inr (false,false,()))):∀ d k:Nat,k+d=l.length->Iter step (k:Int)=some (if (l.drop k).all p=true then (false,false,()) else (true,false,()))
 | 0,k,h=>by
  have:k=l.length:=by omega
  subst this;rw [zq (zd _),List.all_nil,if_pos rfl];exact xaN he
 | d+1,k,h=>by
  have hk:k<l.length:=by omega
  have:=hs k hk;have e:(l.drop k).all p=(p l[k]&&(l.drop (k+1)).all p):=by rw [xa7 hk];rfl
  rw [e];cases hc:p l[k] with
  | true =>
   rw [if_pos hc] at this;rw [xaV this,xwa l p hs he d (k+1) (by omega),Bool.true_and]
  | false =>
   rw [if_neg (by rw [hc];simp)] at this
   rw [xaN this];simp
theorem xuV {ps:List Per} (h:ps.length<=262144):Tame (ps.map fun p=>(p,(1:Int))):=⟨by simpa using h,fun c hc=>by
 obtain ⟨p,_,rfl⟩:=zK.1 hc;dsimp only;omega⟩
theorem xvi (ps:List Per) (h:ps.length<=262144):∃ S,xeZ (ps.map encP)=some (S.map encP)/\StepI (fun t=>((ps.countP (hasP · t):Nat):Int)) 1099511627776 S/\S.length<=2*ps.length+1:=by
 obtain ⟨S,h1,h2,h3⟩:=xo8 _ (xuV h);refine ⟨S,by rw [xzO ps (by omega),h1],?_,by simpa using h3⟩
 rwa [show sumC (ps.map fun p=>(p,(1:Int)))=fun t=>((ps.countP (hasP · t):Nat):Int) from funext fun t=>xva ps t] at h2
theorem xCk (l:List Fc) (q:Row) (t:Int) (g:Fc->List Per) (hg:∀ f,(g f).countP (hasP · t)=if f.r=q/\hasP f.p t=true then 1 else 0):(l.flatMap g).countP (hasP · t)=cnt l q t:=by
 induction l with
 | nil=>rfl
 | cons f l ih =>
  rw [zR,List.countP_append,ih,hg];have e2:cnt (f::l) q t=cnt l q t+if (decide (f.r=q)&&hasP f.p t)=true then 1 else 0:=List.countP_cons
  rw [e2];by_cases h:f.r=q/\hasP f.p t=true
  . rw [if_pos h,if_pos (by simp [h.1,h.2])];omega
  . rw [if_neg h,if_neg (by simpa using h)];omega
theorem xz7 (l:List Fc) (q:Row) (hr:∀ f,f∈l->f.r.length<=maxLen) (hl:l.length<=262144):∃ S,xmD (l.map encF) (q.map encV)=some (S.map encP)/\StepI (fun t=>((cnt l q t:Nat):Int)) 1099511627776 S/\S.length<=2*l.length+1:=by
 have e:=xqH q l (by omega) hr
 have J:(l.flatMap fun f=>if cmpR f.r q==0 then [(f.p,(1:Int))] else [])=(l.flatMap fun f=>if cmpR f.r q==0 then [f.p] else []).map fun p=>(p,(1:Int)):=by
  rw [List.map_flatMap];congr 1;funext f;split<;>simp
 rw [J] at e;generalize hq:(l.flatMap fun f=>if cmpR f.r q==0 then [f.p] else [])=ps at e
 have O:ps.length<=l.length:=by
  rw [<-hq];have:=xjI (c:=1) (g:=fun f:Fc=>if cmpR f.r q==0 then [f.p] else []) l fun f _=>by split<;>simp
  omega
 obtain ⟨S,h1,h2,h3⟩:=xFc _ (xuV (ps:=ps) (by omega))
 refine ⟨S,?_,?_,by rw [za] at h3;omega⟩
 . unfold xmD xnv;simp only [xmE,xmF,xmG,xmH,e,sOO,sUF];simp only [h1,sOO]
 . rwa [show sumC (ps.map fun p=>(p,(1:Int)))=fun t=>((cnt l q t:Nat):Int) from funext fun t=>by
    rw [xva,<-hq,xCk l q t _ fun f=>?_]
    rw [cmp0];by_cases hr:f.r=q<;>cases hh:hasP f.p t<;>simp [hr,hh]] at h2
structure Ve where
 id:Int
 sc:Int
 r:Row
 va:Per
 sy:Per
 b:Int
 u:Int
deriving DecidableEq
def encW (v:Ve):AV:=.agg [.int .i64 v.id,.int .i64 v.sc,.list 3 (v.r.map encV),.int .i64 v.va.1,.int .i64 v.va.2,.int .i64 v.sy.1,.int .i64 v.sy.2,.int .i64 v.b,.int .i64 v.u]
theorem cW0 (v:Ve):((encW v).cells.getD 0 .top).toInt=v.id:=rfl
theorem cW1 (v:Ve):((encW v).cells.getD 1 .top).toInt=v.sc:=rfl
theorem cW2 (v:Ve):((encW v).cells.getD 2 .top).toList=v.r.map encV:=rfl
theorem cW3 (v:Ve):((encW v).cells.getD 3 .top).toInt=v.va.1:=rfl
theorem cW4 (v:Ve):((encW v).cells.getD 4 .top).toInt=v.va.2:=rfl
theorem cW5 (v:Ve):((encW v).cells.getD 5 .top).toInt=v.sy.1:=rfl
theorem cW6 (v:Ve):((encW v).cells.getD 6 .top).toInt=v.sy.2:=rfl
theorem cW7 (v:Ve):((encW v).cells.getD 7 .top).toInt=v.b:=rfl
theorem cW8 (v:Ve):((encW v).cells.getD 8 .top).toInt=v.u:=rfl
theorem lW (v:Ve):((encW v).cells.length==9)=true:=rfl
theorem sW (v:Ve):xG8 [Sh.int .i64,Sh.int .i64,Sh.list 3,Sh.int .i64,Sh.int .i64,Sh.int .i64,Sh.int .i64,Sh.int .i64,Sh.int .i64] (encW v).cells 0=true:=rfl
theorem sW0 (v:Ve):xG1 (Sh.int .i64) ((encW v).cells.getD 0 .top)=true:=rfl
theorem sW2 (v:Ve):xG1 (Sh.list 3) ((encW v).cells.getD 2 .top)=true:=rfl
theorem sW34 (v:Ve):xG8 [Sh.int .i64,Sh.int .i64] (encW v).cells 3=true:=rfl
theorem sW56 (v:Ve):xG8 [Sh.int .i64,Sh.int .i64] (encW v).cells 5=true:=rfl
def Ve.fc (v:Ve):Fc:=⟨v.r,v.va⟩
@[simp] theorem Ve.fc_r (v:Ve):v.fc.r=v.r:=rfl
@[simp] theorem Ve.fc_p (v:Ve):v.fc.p=v.va:=rfl
def xGB:Int:=1099511627776
def Ve.op (v:Ve):Bool:=pv v.sy&&v.sy.2==xGB
theorem xrb (l:List Ve) (hl:l.length<=1599289640401):Iter (xd0 (l.map encW)) ((0:Nat),(0:Int),[])=some ((l.flatMap (fun (f:Ve)=>[Ve.fc f])).length,(l.flatMap (fun (f:Ve)=>[Ve.fc f])).map encF):=by
 refine xjL l (fun (f:Ve)=>[Ve.fc f]) encF 1 (fun f hf=>?_) (fun n h D hD=>?_) (fun D=>?_)
 . simp
 . have h1:(n:Int)<(l.length:Int):=by omega
   have m1:(D.length+1)*40<=140737488355328:=by omega
   have m2:D.length+1<=4611686018427387904:=by omega
   have gf:(l.map encW).getD n .top=encW l[n]:=xaM _ _ _ h;simp only [xd0,xiY,sBU,h,h1,gf,cW0,cW1,cW2,cW3,cW4,cW5,cW6,cW7,cW8,lW,sW,sW0,sW2,sW34,sW56,m1,m2,xF0 (n:=n) (by omega)]
   simp [encF]
 . simp only [xd0,xiY,za,zy,zm,xaK,sUF]
theorem xBN (l:List Ve) (hl:l.length<=1599289640401):xkU (l.map encW)=some ((l.map Ve.fc).map encF):=by
 have e:=xrb l hl;rw [xGG] at e;unfold xkU xov;simp only [xnA,xnB,xnC,e,sOO,sUF]
def fewV (l:List Ve):Bool:=decide (l.length<=16)&&l.all fun v=>decide (v.r.length<=60)
theorem xBc {l:List Ve} (h:fewV l=true):l.length<=16/\∀ v,v∈l->v.r.length<=60:=by
 simp only [fewV,zf,zl,zI] at h;exact h
def fewF (n:Nat) (l:List Fc):Bool:=decide (l.length<=n)&&l.all fun f=>decide (f.r.length<=60)
theorem xze (l:List Fc) (hl:l.length<=1599289640401) (n:Nat):xlV (l.map encF) (n:Int)=some (fewF n l):=by
 have q:Iter (xcA (l.map encF)) (0:Int)=some (if l.all (fun f=>decide (f.r.length<=60))=true then (false,false,()) else (true,false,())):=by
  have:=xwa (step:=xcA (l.map encF)) l (fun f=>decide (f.r.length<=60)) (fun k h=>by
   have h1:(k:Int)<(l.length:Int):=by omega
   have gf:(l.map encF).getD k .top=encF l[k]:=xaM _ _ _ h;simp only [xcA,xkw,sBU,h,h1,gf,cF0,cF1,cF2,sF0,sF1,sF2,lF,sF12,sF02,xF0 (n:=k) (by omega)]
   by_cases hc:l[k].r.length<=60
   . have:¬ ((l[k].r.length:Int)>60):=by omega
     simp [hc,this,xaK,sUF]
   . have:(l[k].r.length:Int)>60:=by omega
     simp [hc,this,xaL,sUF]) (by simp only [xcA,xkw,za,zy,zm,xaK,sUF]) l.length 0 (by omega)
  simpa using this
 unfold xlV xpW;rw [q];simp only [sBU];by_cases h1:(l.length:Int)>(n:Int)
 . have h2:¬ l.length<=n:=by omega
   simp [h1,h2,xaL,fewF,sUF]
 . have h2:l.length<=n:=by omega
   simp only [h1,zm,xaK,fewF,h2,zn,Bool.true_and,sUF];cases l.all fun f=>decide (f.r.length<=60)<;>simp [xaL,xaK,sUF]
theorem xCq (l:List Ve) (hl:l.length<=1599289640401):xpA (l.map encW)=some (fewV l):=by
 have e:=xze (l.map Ve.fc) (by simpa using hl) 16
 have e2:((16:Nat):Int)=(16:Int):=rfl;rw [e2] at e;have e3:fewF 16 (l.map Ve.fc)=fewV l:=by unfold fewF fewV;rw [za,List.all_map];rfl
 unfold xpA xpM;simp only [xBN l hl,zk,zh,xaL,e,e3,sUF]
def outR {σ ρ:Type}:Option ρ->σ->Option (σ⊕ρ)
 | some x,_=>some (.inr x)
 | none,s=>some (.inl s)
theorem xy8 {σ ρ:Type} (c:Bool) (a b:Option ρ) (s:σ):outR (br c a b) s=br c (outR a s) (outR b s):=by cases c<;>rfl
theorem xrD {σ ρ:Type} (x:ρ) (s:σ):outR (some x) s=some (.inr x):=rfl
theorem xrC {σ ρ:Type} (s:σ):outR (none:Option ρ) s=some (.inl s):=rfl
theorem xE1 {α β:Type} (f:α->β) (c:Bool) (a b:Option α):(br c a b).map f=br c (a.map f) (b.map f):=by cases c<;>rfl
theorem xAU {T:Type} (p q:Bool) (x y:T):br (p&&q) x y=br p (br q x y) y:=by cases p<;>rfl
theorem xpz {σ ρ α:Type} {step:σ->Option (σ⊕ρ)} (L:List α) (st:Nat->σ) (e:α->Option ρ) (r0:ρ)
  (hs:∀ (k:Nat) (h:k<L.length),step (st k)=outR (e L[k]) (st (k+1))) (he:step (st L.length)=some (.inr r0)):∀ d k:Nat,k+d=L.length->Iter step (st k)=some (((L.drop k).findSome? e).getD r0)
 | 0,k,h=>by
  have:k=L.length:=by omega
  subst this;rw [zq (zd _)];exact xaN he
 | d+1,k,h=>by
  have hk:k<L.length:=by omega
  have:=hs k hk;rw [xa7 hk,List.findSome?_cons];cases hc:e L[k] with
  | some x=>rw [hc,xrD] at this;rw [xaN this];rfl
  | none=>rw [hc,xrC] at this;rw [xaV this];exact xpz L st e r0 hs he d (k+1) (by omega)
theorem xsD {α ρ:Type} (p:α->Bool) (x:ρ):∀ L:List α,L.findSome? (fun a=>br (p a) (some x) none)=br (L.any p) (some x) none
 | []=>rfl
 | a::L=>by
  rw [List.findSome?_cons,List.any_cons];cases p a with
  | true=>rfl
  | false=>exact xsD p x L
theorem xv1 {α ρ τ:Type} (g:ρ->τ) (e:α->Option ρ):∀ L:List α,L.findSome? (fun a=>(e a).map g)=(L.findSome? e).map g
 | []=>rfl
 | a::L=>by
  rw [List.findSome?_cons,List.findSome?_cons];cases e a with
  | some x=>rfl
  | none=>exact xv1 g e L
instance:Inhabited Ve:=⟨⟨0,0,[],(0,0),(0,0),0,0⟩⟩
def bad1 (v:Ve):Bool:=decide (v.id<1) || (decide (v.b<1) || (decide (v.sc<0) || (decide (v.u<0) || (!pv v.va || (!pv v.sy || (v.u != 0&&(decide (v.u<=v.b) || v.sy.2==xGB)))))))
theorem gW {l:List Ve} {k:Nat} (h:k<l.length):(l.map encW).getD k .top=encW (l.getD k default):=by
 rw [xaM _ _ _ h,z7,ze h,zh]
theorem z0:(((0:Nat):Int)==0)=true:=rfl
theorem z1 (k:Nat):(((k+1:Nat):Int)==0)=false:=by simp;omega
theorem nn (x y:Row):(cmpR x y != 0)=!decide (x=y):=cmp1 x y
theorem xB1 {l:List Ve} {i k:Nat} (h:k<(l.take i).length):(l.take i)[k]=l.getD k default:=by
 rw [zt] at h;rw [List.getElem_take,z7,ze (by omega),zh]
theorem xGU {n:Nat} (h:n+1<=4611686018427387904):IntKind.i64.wrap (((n+1:Nat):Int) - 1)=(n:Int):=by rw [xde (by omega) (by omega)];omega
theorem tkP (p:Per):List.take 1 (encP p).cells=[.int .i64 p.1]:=rfl
theorem dpP (p:Per):List.drop 2 (encP p).cells=[]:=rfl
theorem aggP (a b:Int):AV.agg [.int .i64 a,.int .i64 b]=encP (a,b):=rfl
theorem xv5 {α:Type} (l:List α) (x d:α):(l++[x]).getD l.length d=x:=by simp
theorem xD7 {α:Type} (l:List α) (x y:α):(l++[x]).set l.length y=l++[y]:=by simp
def xF1 (st:List Per):List Int:=st.flatMap fun s=>List.replicate s.2.toNat s.1
theorem xiQ (st:List Per) (f m:Int):xF1 (st++[(f,m)])=xF1 st++List.replicate m.toNat f:=by simp [xF1]
def StOk (st:List Per):Prop:=∀ s,s∈st->1<=s.2
theorem StOk.len {st:List Per} (h:StOk st):st.length<=(xF1 st).length:=by
 unfold xF1;induction st with
 | nil=>simp
 | cons s st ih =>
  have h1:=h s (by simp)
  have:=ih fun s hs=>h s (by simp [hs])
  rw [zR,z8,zF,List.length_replicate];omega
theorem xuj (J n:Int) (v:Nat) (k t2 f:Int) (q:List Per) (ti:Nat) (O:ti<q.length) (hf:q[ti].1=f) (K:Nat) (hK:K<=1048576):∀ (d j:Nat) (ox:List Per) (vo:Nat),j+d=K->ox.length+d<=1099511627776 ->
  Iter (xc5 J n v ti k (K:Int)) ((j:Int),t2,q.length,v,ox.length,vo,v,q.map encP,vo,ox.map encP)=some (t2,v,q.length,vo+d,(ox++List.replicate d (f,J)).length,q.map encP,v,(ox++List.replicate d (f,J)).map encP,vo+d)
 | 0,j,ox,vo,h,hb=>by
  obtain rfl:j=K:=by omega
  refine xaN ?_;simp only [xc5,xjp,zy,zm,xaK,List.replicate_zero,zD,Nat.add_zero,sUF]
 | d+1,j,ox,vo,h,hb=>by
  have i1:(j:Int)<(K:Int):=by omega
  have gf:(q.map encP).getD ti .top=encP q[ti]:=xaM _ _ _ O;have m1:(ox.length+1)*16<=140737488355328:=by omega
  have m2:ox.length+1<=4611686018427387904:=by omega
  have tk:List.take q.length (q.map encP)=q.map encP:=zi (by simp)
  rw [xaV (s':=(((j+1:Nat):Int),t2,q.length,v,(ox++[(f,J)]).length,vo+1,v,q.map encP,vo+1,(ox++[(f,J)]).map encP)) ?_,xuj J n v k t2 f q ti O hf K hK d (j+1) (ox++[(f,J)]) (vo+1) (by omega) (by rw [z8,zj];omega)]
  . rw [zw,show [(f,J)]++List.replicate d (f,J)=List.replicate (d+1) (f,J) from rfl,show vo+1+d=vo+(d+1) by omega]
  . simp only [xc5,xjp,sBU,i1,O,gf,cP0,cP1,lP,sP,sP0,sP1,hf,m1,m2,tk,xF0 (n:=j) (by omega)]
    simp [encP]
theorem xzd {α:Type} (n:Nat) (a:α):(List.replicate n a).reverse=List.replicate n a:=List.reverse_replicate ..
theorem xui (q:Int) (n:Nat):∀ (c:Nat) (J:List Per) (h:Nat) (ox:List Per) (v vo:Nat),J.length<=c->StOk J->(xF1 J).length=h->n<=h->h<=1048576->ox.length+h<=1099511627776 ->
  ∃ (O Q:List Per) (U:Nat),Iter (xce q (n:Int)) ((h:Int),J.length,v,ox.length,vo,v,J.map encP,vo,ox.map encP)=some ((n:Int),v,O.length,U,Q.length,O.map encP,v,Q.map encP,U) /\
   StOk O/\xF1 O=(xF1 J).take n/\Q=ox++(((xF1 J).drop n).reverse.map fun f=>(f,q))
 | c,J,h,ox,v,vo,hc,hs,hh,hn,hb,ho=>by
  by_cases aa:n=h
  . subst aa;refine ⟨J,ox,vo,xaN ?_,hs,?_,?_⟩
    . have i1:¬ ((n:Int)>(n:Int)):=by omega
      simp only [xce,xfD,i1,zm,xaK,sUF]
    . rw [zi (by omega)]
    . rw [zq (by omega)];simp
  . have ad:n<h:=by omega
    rcases xoR J with rfl|⟨st,⟨f,m⟩,rfl⟩
    . simp [xF1] at hh;omega
    . have hm:=hs (f,m) (by simp)
      dsimp only at hm;have V:StOk st:=fun s h=>hs s (by simp [h])
      have ac:(xF1 st).length+m.toNat=h:=by rw [<-hh,xiQ,z8,List.length_replicate]
      obtain ⟨M,rfl⟩:∃ M:Nat,m=(M:Int):=⟨m.toNat,by omega⟩
      rw [zN] at ac;have sl:=hs.len;rw [z8,zj] at hc sl;rw [hh] at sl;have L1:(st++[(f,(M:Int))]).length=st.length+1:=by simp
      have i1:(h:Int)>(n:Int):=by omega
      have w1:IntKind.i64.wrap (((st.length+1:Nat):Int) - 1)=(st.length:Int):=xGU (by omega)
      have w2:IntKind.i64.wrap ((h:Int) - (n:Int))=((h - n:Nat):Int):=by rw [xde (by omega) (by omega)];omega
      have i2:(st.length:Int)<((st.length+1:Nat):Int):=by omega
      have i3:st.length<(st++[(f,(M:Int))]).length:=by omega
      have g0:(st++[(f,(M:Int))])[st.length]'i3=(f,(M:Int)):=by simp
      have gf:((st++[(f,(M:Int))]).map encP).getD st.length .top=encP (f,(M:Int)):=by rw [xaM _ _ _ i3,g0]
      have tk:List.take (st.length+1) ((st++[(f,(M:Int))]).map encP)=(st++[(f,(M:Int))]).map encP:=zi (by simp)
      have Y:∀ x:AV,((st++[(f,(M:Int))]).map encP).set st.length x=st.map encP++[x]:=fun x=>by
       rw [zx];have:=xD7 (st.map encP) (encP (f,(M:Int))) x;rwa [za] at this
      have gl:∀ x:AV,(st.map encP++[x]).getD st.length .top=x:=fun x=>by have:=xv5 (st.map encP) x .top;rwa [za] at this
      have tl:∀ x:AV,List.take st.length (st.map encP++[x])=st.map encP:=fun x=>by
       have:=List.take_left' (l₁:=st.map encP) (l₂:=[x]) (i:=st.length) (by simp)
       exact this
      by_cases hk:M<=h - n
      ·
       have i4:¬ ((h - n:Nat):Int)<(M:Int):=by omega
       have e1:=xuj q (n:Int) v (M:Int) (h:Int) f (st++[(f,(M:Int))]) st.length i3 (by rw [g0]) M (by omega) M 0 ox vo (by omega) (by omega)
       rw [L1] at e1;obtain ⟨O,Q,U,e2,h1,h2,h3⟩:=xui q n (c - 1) st (h - M) (ox++List.replicate M (f,q)) v (vo+M) (by omega) V (by omega) (by omega) (by omega) (by rw [z8,List.length_replicate];omega)
       refine ⟨O,Q,U,(xaV (s':=(((h - M:Nat):Int),st.length,v,(ox++List.replicate M (f,q)).length,vo+M,v,st.map encP,vo+M,(ox++List.replicate M (f,q)).map encP)) ?_).trans e2,h1,?_,?_⟩
       . have w3:IntKind.i64.wrap ((h:Int) - (M:Int))=((h - M:Nat):Int):=by rw [xde (by omega) (by omega)];omega
         have w4:IntKind.i64.wrap ((M:Int) - (M:Int))=0:=by rw [Int.sub_self];rfl
         have i5:(st.length:Int)<=((st.length+1:Nat):Int):=by omega
         have e1:Iter (xc5 q (n:Int) v st.length (M:Int) (M:Int)) ((0:Int),(h:Int),st.length+1,v,ox.length,vo,v,(st++[(f,(M:Int))]).map encP,vo,ox.map encP)=_:=e1;simp only [xce,xfD,xd7,xc4,xiT,xex,xgv,xe0,xe1,xe2,xe3,xiU,xhP,xfU,xfV,xhQ,xhR,xfW,xdJ,xhS,xa6,sBU,L1,i1,i2,w1,w2,w3,w4,i4,i5,gf,cP0,cP1,lP,sP,sP0,sP1,tk,e1,if_false,Y,gl,tl,z8,zj,Nat.lt_succ_self,tkP,dpP,aggP,zD,List.singleton_append]
         try simp [xaL,tl,gl,sUF]
       . rw [h2,xiQ,List.take_append_of_le_length (by omega)]
       . rw [h3,xiQ,zN,List.drop_append_of_le_length (by omega),List.reverse_append,xzd,zx,List.map_replicate,zw]
      ·
       have i4:((h - n:Nat):Int)<(M:Int):=by omega
       have e1:=xuj q (n:Int) v ((h - n:Nat):Int) (h:Int) f (st++[(f,(M:Int))]) st.length i3 (by rw [g0]) (h - n) (by omega) (h - n) 0 ox vo (by omega) (by omega)
       rw [L1] at e1;refine ⟨st++[(f,((M - (h - n):Nat):Int))],ox++List.replicate (h - n) (f,q),vo+(h - n),(xaV (s':=((n:Int),st.length+1,v,(ox++List.replicate (h - n) (f,q)).length,vo+(h - n),v,(st++[(f,((M - (h - n):Nat):Int))]).map encP,vo+(h - n),(ox++List.replicate (h - n) (f,q)).map encP)) ?_).trans (xaN ?_),?_,?_,?_⟩
       . have w3:IntKind.i64.wrap ((h:Int) - ((h - n:Nat):Int))=(n:Int):=by rw [xde (by omega) (by omega)];omega
         have w4:IntKind.i64.wrap ((M:Int) - ((h - n:Nat):Int))=((M - (h - n):Nat):Int):=by rw [xde (by omega) (by omega)];omega
         have i6:(((M - (h - n):Nat):Int)==0)=false:=by simp;omega
         have e1:Iter (xc5 q (n:Int) v st.length ((h - n:Nat):Int) ((h - n:Nat):Int)) ((0:Int),(h:Int),st.length+1,v,ox.length,vo,v,(st++[(f,(M:Int))]).map encP,vo,ox.map encP)=_:=e1;have Z:∀ x:AV,List.take (st.length+1) (st.map encP++[x])=st.map encP++[x]:=fun x=>zi (by simp)
         simp only [xce,xfD,xd7,xc4,xiT,xex,xgv,xe0,xe1,xe2,xe3,xiU,xhP,xfU,xfV,xhQ,xhR,xfW,xdJ,xhS,xa6,sBU,L1,i1,i2,w1,w2,w3,w4,i4,gf,cP0,cP1,lP,sP,sP0,sP1,tk,e1,if_true,Y,gl,tl,Z,z8,zj,Nat.lt_succ_self,tkP,dpP,aggP,zD,List.singleton_append]
         try simp [xaL,xaK,tl,Z,gl,i6,sUF]
       . have i5:¬ ((n:Int)>(n:Int)):=by omega
         simp only [xce,xfD,i5,zm,xaK,z8,zj,sUF]
       . intro s ab;rcases zG.1 ab with h1|h1
         . exact V s h1
         . rw [zv] at h1;subst h1;dsimp only;omega
       . rw [xiQ,xiQ,zN,zN,List.take_append];have:(xF1 st).take n=xF1 st:=zi (by omega)
         rw [this,List.take_replicate,show min (n - (xF1 st).length) M=M - (h - n) by omega]
       . rw [xiQ,zN,List.drop_append,zq (show (xF1 st).length<=n by omega),zU,List.drop_replicate,xzd,List.map_replicate,show M - (n - (xF1 st).length)=h - n by omega]
theorem xzk (J:Int) (n h:Nat) (q ox:List Per) (hs:StOk q) (hh:(xF1 q).length=h) (hn:n<=1048576) (hb:h<=1048576) (ho:ox.length+1048576<=1099511627776) :
  ∃ O:List Per,set2 J (n:Int) (h:Int) q.length ox.length (q.map encP) (ox.map encP)=some ((n:Int),O.length,(ox++(((xF1 q).drop n).reverse.map fun f=>(f,J))).length,O.map encP,(ox++(((xF1 q).drop n).reverse.map fun f=>(f,J))).map encP) /\
   StOk O/\xF1 O=(xF1 q).take n++List.replicate (n - h) J:=by
 have sl:=hs.len;rw [hh] at sl;have tk:List.take q.length (q.map encP)=q.map encP:=zi (by simp)
 by_cases aa:h<n
 . have i1:(n:Int)>(h:Int):=by omega
   have w1:IntKind.i64.wrap ((n:Int) - (h:Int))=((n - h:Nat):Int):=by rw [xde (by omega) (by omega)];omega
   have V:StOk (q++[(J,((n - h:Nat):Int))]):=fun s h1=>by
    rcases zG.1 h1 with h1|h1
    . exact hs s h1
    . rw [zv] at h1;subst h1;dsimp only;omega
   have hf:xF1 (q++[(J,((n - h:Nat):Int))])=xF1 q++List.replicate (n - h) J:=by rw [xiQ,zN]
   have Z:(xF1 (q++[(J,((n - h:Nat):Int))])).length=n:=by rw [hf,z8,List.length_replicate];omega
   obtain ⟨O,Q,Y,e,h1,h2,h3⟩:=xui J n (q.length+1) (q++[(J,((n - h:Nat):Int))]) n ox 1 0 (by simp) V Z (zd _) hn (by omega)
   refine ⟨O,?_,h1,?_⟩
   . have d1:(xF1 q).drop n=[]:=zq (by omega)
     have d2:(xF1 (q++[(J,((n - h:Nat):Int))])).drop n=[]:=zq (by omega)
     rw [d2] at h3;subst h3;rw [d1];have m1:(q.length+1)*16<=140737488355328:=by omega
     have m2:q.length+1<=4611686018427387904:=by omega
     have U:List.take (q.length+1) (q.map encP++[AV.agg [.int .i64 J,.int .i64 ((n - h:Nat):Int)]])=(q++[(J,((n - h:Nat):Int))]).map encP:=by
      rw [zi (by simp),zx];rfl
     rw [z8,zj] at e;unfold set2 xki xjP;simp only [xkx,xk0,xk1,xk2,xk3,xk4,xk5,xk6,xk7,xk8,xkj,xkk,xkl,xkm,xkn,xko,xkp,xkq,i1,w1,zn,xaL,za,beq_self_eq_true,m1,m2,Bool.and_self,U,e,zk,zh,Option.bind_some,Nat.beq_refl,sUF]
   . rw [h2,hf,zi (by rw [<-hf];omega),zi (by omega)]
 . obtain ⟨O,Q,Y,e,h1,h2,h3⟩:=xui J n q.length q h ox 0 0 (zd _) hs hh (by omega) hb (by omega)
   refine ⟨O,?_,h1,by rw [h2,show n - h=0 by omega];simp⟩
   have i1:¬ (n:Int)>(h:Int):=by omega
   subst h3;unfold set2 xki xjP;simp only [xkx,xk0,xk1,xk2,xk3,xk4,xk5,xk6,xk7,xk8,xkj,xkk,xkl,xkm,xkn,xko,xkp,xkq,i1,zm,xaK,tk,e,zk,zh,xaL,Option.bind_some,Nat.beq_refl,Bool.and_self,sUF]
def setF (s:List Int×List Per) (q:Int×Nat):List Int×List Per:=(s.1.take q.2++List.replicate (q.2 - s.1.length) q.1,s.2++((s.1.drop q.2).reverse.map fun f=>(f,q.1)))
theorem xsb {α β:Type} (A B:α->List β):∀ l:List α,(l.flatMap fun k=>A k++B k).Perm (l.flatMap A++l.flatMap B)
 | []=>List.Perm.refl _
 | a::l=>by
  rw [zR,zR,zR];have ih:=xsb A B l;refine (ih.append_left (A a++B a)).trans ?_;rw [zw,zw];refine List.Perm.append_left _ ?_;rw [<-zw,<-zw];exact List.Perm.append_right _ List.perm_append_comm
theorem xtI {β:Type} (g:Int->β):∀ (F:List Int) (H n:Nat),F.length<=H->(List.range H).flatMap (fun k=>if n<=k then (F[k]?).toList.map g else [])=(F.drop n).map g
 | [],H,n,_=>by
  rw [List.drop_nil,zW,List.flatMap_eq_nil_iff];intro k _;split<;>simp
 | x::F,0,n,h=>by simp at h
 | x::F,H+1,n,h=>by
  rw [List.range_succ_eq_map,zR,List.flatMap_map];have ih:=xtI g F H (n - 1) (by simpa using h)
  have e:(List.range H).flatMap (fun a=>if n<=a.succ then (((x::F)[a.succ]?).toList).map g else [])=(F.drop (n - 1)).map g:=by
   rw [<-ih];congr 1;funext a;have:(n<=a.succ)=(n - 1<=a):=by rw [eq_iff_iff];omega
   simp only [this,zZ,Nat.succ_eq_add_one]
  rw [e];cases n with
  | zero=>simp
  | succ n=>simp
structure LvI (N:Int->Nat) (H:Nat) (at':Int) (F:List Int) (out:List Per) (A:Nat->List Per):Prop where
 perm:out.Perm ((List.range H).flatMap A)
 span:∀ k,IsSpan (A k)
 low:∀ k (h:k<F.length),F[k]<=at'/\0<=F[k]/\∀ p,p∈A k->p.2<F[k]
 high:∀ k,F.length<=k->∀ p,p∈A k->p.2<=at'
 cov:∀ k t,t<=at'->((inL (A k) t=true\/∃ h:k<F.length,F[k]<=t)↔k<N t)
 len:F.length=N at'
 top:F.length<=H
theorem LvI.start {N:Int->Nat} {H:Nat} (h0:∀ t,t<0->N t=0):LvI N H (-1) [] [] fun _=>[] where
 perm:=by
  have:(List.range H).flatMap (fun _=>([]:List Per))=[]:=by simp
  rw [this]
 span _:=xoM
 low k h:=by simp at h
 high k _ p hp:=by simp at hp
 cov k t ht:=by rw [h0 t (by omega),xkg];simp
 len:=by rw [h0 _ (by omega)];rfl
 top:=zQ _
theorem LvI.set {N:Int->Nat} {H:Nat} {a b:Int} {F:List Int} {out:List Per} {A:Nat->List Per} (h:LvI N H a F out A) (ad:a<b) (h0:0<=b) (hb:b<=1099511627776) (hc:∀ t,a<=t->t<b->N t=N a) (hH:N b<=H) :
  ∃ A',LvI N H b (setF (F,out) (b,N b)).1 (setF (F,out) (b,N b)).2 A':=by
 have hl:=h.len;refine ⟨fun k=>A k++(if N b<=k then (F[k]?).toList.map (fun f=>(f,b)) else []),?_,?_,?_,?_,?_,?_,?_⟩
 . refine (List.Perm.append h.perm ?_).trans (xsb A _ _).symm;rw [xtI (fun f=>(f,b)) F H (N b) h.top]
   exact (List.reverse_perm _).map _
 . intro k;by_cases hk:N b<=k
   . rw [if_pos hk];by_cases J:k<F.length
     . obtain ⟨l1,l2,l3⟩:=h.low k J;rw [ze J];refine ⟨fun p hp=>?_,List.pairwise_append.2 ⟨(h.span k).2,by simp,fun p hp q hq=>?_⟩⟩
       . rcases zG.1 hp with hp|hp
         . exact (h.span k).1 p hp
         . simp at hp;subst hp;exact xei.2 ⟨l2,by dsimp only;omega,hb⟩
       . simp at hq;subst hq;exact l3 p hp
     . rw [zz (by omega)];simpa using h.span k
   . rw [if_neg hk,zD];exact h.span k
 . intro k hk;simp only [setF] at hk |-;rw [z8,zt,List.length_replicate] at hk;have O:¬ N b<=k:=by omega
   simp only [O,if_false,zD];by_cases J:k<F.length
   . rw [List.getElem_append_left (by rw [zt];omega),List.getElem_take]
     obtain ⟨l1,l2,l3⟩:=h.low k J;exact ⟨by omega,l2,l3⟩
   . rw [List.getElem_append_right (by rw [zt];omega),List.getElem_replicate]
     exact ⟨Int.le_refl _,h0,fun p hp=>by have:=h.high k (by omega) p hp;omega⟩
 . intro k hk p hp;simp only [setF] at hk;rw [z8,zt,List.length_replicate] at hk;have O:N b<=k:=by omega
   simp only [O,if_true] at hp;by_cases J:k<F.length
   . rw [ze J] at hp;rcases zG.1 hp with hp|hp
     . obtain ⟨l1,l2,l3⟩:=h.low k J;have:=l3 p hp;omega
     . simp at hp;subst hp;exact Int.le_refl _
   . rw [zz (by omega)] at hp
     simp at hp;have:=h.high k (by omega) p hp;omega
 . intro k t ht;have U:(setF (F,out) (b,N b)).1=F.take (N b)++List.replicate (N b - F.length) b:=rfl;have key:(∃ hh:k<(setF (F,out) (b,N b)).1.length,(setF (F,out) (b,N b)).1[k]<=t)↔(k<N b/\((∃ hh:k<F.length,F[k]<=t)\/(F.length<=k/\b<=t))):=by
    constructor
    . rintro ⟨hh,Q⟩;have hh':=hh;rw [U,z8,zt,List.length_replicate] at hh';refine ⟨by omega,?_⟩
      by_cases J:k<F.length
      . refine .inl ⟨J,?_⟩;have e:(setF (F,out) (b,N b)).1[k]=F[k]:=by
         simp only [U];rw [List.getElem_append_left (by rw [zt];omega),List.getElem_take]
        rw [<-e];exact Q
      . refine .inr ⟨by omega,?_⟩
        have e:(setF (F,out) (b,N b)).1[k]=b:=by
         simp only [U];rw [List.getElem_append_right (by rw [zt];omega),List.getElem_replicate]
        rw [<-e];exact Q
    . rintro ⟨h1,h2⟩;have hh:k<(setF (F,out) (b,N b)).1.length:=by rw [U,z8,zt,List.length_replicate];omega
      refine ⟨hh,?_⟩;rcases h2 with ⟨J,Q⟩|⟨J,Q⟩
      . have e:(setF (F,out) (b,N b)).1[k]=F[k]:=by
         simp only [U];rw [List.getElem_append_left (by rw [zt];omega),List.getElem_take]
        rw [e];exact Q
      . have e:(setF (F,out) (b,N b)).1[k]=b:=by
         simp only [U];rw [List.getElem_append_right (by rw [zt];omega),List.getElem_replicate]
        rw [e];exact Q
   rw [key];have Y:inL (A k++(if N b<=k then (F[k]?).toList.map (fun f=>(f,b)) else [])) t=true↔inL (A k) t=true\/(N b<=k/\(∃ hh:k<F.length,F[k]<=t)/\t<b):=by
    rw [xmh,Bool.or_eq_true];refine or_congr Iff.rfl ?_;by_cases O:N b<=k
    . rw [if_pos O];by_cases J:k<F.length
      . obtain ⟨l1,l2,l3⟩:=h.low k J;rw [ze J];have e:inL ((some F[k]).toList.map fun f=>(f,b)) t=hasP (F[k],b) t:=by simp [inL]
        rw [e,xfT,xei];dsimp only;constructor
        . rintro ⟨_,h2,h3⟩;exact ⟨O,⟨J,h2⟩,h3⟩
        . rintro ⟨_,⟨_,h2⟩,h3⟩;exact ⟨⟨l2,by omega,hb⟩,h2,h3⟩
      . rw [zz (by omega)]
        simp only [Option.toList_none,zW,xkg,zT,false_iff];rintro ⟨_,⟨hh,_⟩,_⟩;omega
    . rw [if_neg O,xkg];simp only [zT,false_iff];rintro ⟨hh,_⟩;omega
   rw [Y];by_cases ac:t<=a
   . have aa:=h.cov k t ac;rw [<-aa];constructor
     . rintro ((h1|⟨_,h2,_⟩)|⟨_,h2|⟨_,h3⟩⟩)
       . exact .inl h1
       . exact .inr h2
       . exact .inr h2
       . omega
     . rintro (h1|h2)
       . exact .inl (.inl h1)
       . by_cases O:N b<=k
         . exact .inl (.inr ⟨O,h2,by omega⟩)
         . exact .inr ⟨by omega,.inl h2⟩
   . have Z:inL (A k) t=true->False:=fun hi=>by
      obtain ⟨p,hp,_,p1,p2⟩:=xgo.1 hi;by_cases J:k<F.length
      . obtain ⟨l1,l2,l3⟩:=h.low k J;have:=l3 p hp;omega
      . have:=h.high k (by omega) p hp;omega
     have ab:(∃ hh:k<F.length,F[k]<=t)↔k<F.length:=⟨fun ⟨hh,_⟩=>hh,fun hh=>⟨hh,by have:=(h.low k hh).1;omega⟩⟩
     rw [ab];by_cases V:t<b
     . rw [hc t (by omega) V,<-hl]
       constructor
       . rintro ((h1|⟨_,h2,_⟩)|⟨_,h2|⟨_,h3⟩⟩)
         . exact (Z h1).elim
         . exact h2
         . exact h2
         . omega
       . intro J;by_cases O:N b<=k
         . exact .inl (.inr ⟨O,J,V⟩)
         . exact .inr ⟨by omega,.inl J⟩
     . obtain rfl:t=b:=by omega
       constructor
       . rintro ((h1|⟨_,_,h2⟩)|⟨h1,_⟩)
         . exact (Z h1).elim
         . omega
         . exact h1
       . intro hk;refine .inr ⟨hk,?_⟩;by_cases J:k<F.length
         . exact .inl J
         . exact .inr ⟨by omega,Int.le_refl _⟩
 . show (F.take (N b)++List.replicate (N b - F.length) b).length=N b;rw [z8,zt,List.length_replicate];omega
 . show (F.take (N b)++List.replicate (N b - F.length) b).length<=H;rw [z8,zt,List.length_replicate];omega
theorem xpw {N:Int->Nat} {a b:Int} (h:∀ t,a<t->t<b->N (t - 1)=N t):∀ (d:Nat) (t:Int),t=a+d->t<b->N t=N a
 | 0,t,e,_=>by rw [e];simp
 | d+1,t,e,hb=>by
  rw [<-h t (by omega) hb]
  exact xpw h d (t - 1) (by omega) (by omega)
theorem xwh {N:Int->Nat} {H:Nat} (hH:∀ t,N t<=H):∀ (R:List Per) (a:Int) (F:List Int) (out:List Per) (A:Nat->List Per),LvI N H a F out A->-1<=a->a<1099511627776->(∀ s,s∈R->a<s.1/\s.1<1099511627776/\s.2=(N s.1:Int))->R.Pairwise (fun x y=>x.1<y.1) ->
  (∀ t,a<t->t<1099511627776->N (t - 1)≠N t->∃ s,s∈R/\s.1=t)->∃ (a':Int) (A':Nat->List Per),LvI N H a' (R.foldl (fun x s=>setF x (s.1,s.2.toNat)) (F,out)).1 (R.foldl (fun x s=>setF x (s.1,s.2.toNat)) (F,out)).2 A'/\-1<=a'/\a'<1099511627776/\∀ t,a'<t->t<1099511627776->N (t - 1)=N t
 | [],a,F,out,A,h,h1,h2,_,_,hm=>⟨a,A,h,h1,h2,fun t t1 t2=>by
  by_cases e:N (t - 1)=N t
  . exact e
  . obtain ⟨s,hs,_⟩:=hm t t1 t2 e;simp at hs⟩
 | s::R,a,F,out,A,h,h1,h2,hr,hp,hm=>by
  obtain ⟨s1,s2,s3⟩:=hr s (by simp)
  obtain ⟨p1,p2⟩:=zM.1 hp;obtain ⟨A',h'⟩:=h.set (b:=s.1) s1 (by omega) (by omega) (fun t t1 t2=>xpw (a:=a) (b:=s.1) (fun u u1 u2=>by
   by_cases e:N (u - 1)=N u
   . exact e
   . obtain ⟨q,hq,J⟩:=hm u u1 (by omega) e
     rcases zC.1 hq with rfl|hq
     . omega
     . have:=p1 q hq;omega) (t - a).toNat t (by omega) t2) (hH _)
  rw [List.foldl_cons];have e:setF (F,out) (s.1,s.2.toNat)=setF (F,out) (s.1,N s.1):=by rw [s3,zN]
  rw [e];obtain ⟨a',A2,g1,g2,g3,g4⟩:=xwh hH R s.1 _ _ A' h' (by omega) s2 (fun q hq=>⟨p1 q hq,(hr q (by simp [hq])).2⟩) p2 (fun t t1 t2 e=>by
   obtain ⟨q,hq,J⟩:=hm t (by omega) t2 e
   rcases zC.1 hq with rfl|hq
   . omega
   . exact ⟨q,hq,J⟩)
  exact ⟨a',A2,g1,g2,g3,g4⟩
theorem xCw {N:Int->Nat} {H:Nat} (hH:∀ t,N t<=H) (h0:∀ t,t<0\/1099511627776<=t->N t=0) {S:List Per} (hS:StepI (fun t=>(N t:Int)) 1099511627776 S) {P:List Per} (hP:P.Perm (setF (S.foldl (fun x s=>setF x (s.1,s.2.toNat)) ([],[])) (1099511627776,0)).2) (hs:Sorted cmpP P):IsLevs N P:=by
 obtain ⟨a,A,g1,g2,g3,g4⟩:=xwh hH S (-1) [] [] _ (LvI.start fun t ht=>h0 t (.inl ht)) (by omega) (by omega) (fun s hs=>by
  obtain ⟨m1,m2,m3,_⟩:=(hS.mem s).1 hs;exact ⟨by omega,m2,m3⟩) hS.asc (fun t t1 t2 e=>by
  refine ⟨(t,(N t:Int)),(hS.mem _).2 ⟨by dsimp only;omega,t2,rfl,?_⟩,rfl⟩
  refine .inr ?_;dsimp only;omega)
 have hz:N 1099511627776=0:=h0 _ (.inr (Int.le_refl _));obtain ⟨A',h'⟩:=g1.set (b:=1099511627776) g3 (by omega) (by omega) (fun t t1 t2=>xpw (fun u u1 u2=>g4 u u1 u2) (t - a).toNat t (by omega) t2) (hH _)
 rw [hz] at h';have hF:=h'.len;rw [hz] at hF;refine ⟨hs,A',H,hH,fun k=>⟨h'.span k,fun t=>?_⟩,hP.trans h'.perm⟩
 rw [Bool.eq_iff_iff,zl];by_cases ht:t<=1099511627776
 . rw [<-h'.cov k t ht];refine ⟨Or.inl,fun hh=>hh.elim id fun ⟨hk,_⟩=>?_⟩
   rw [hF] at hk;omega
 . rw [h0 t (.inr (by omega))]
   refine ⟨fun hi=>?_,fun hh=>by omega⟩
   have:=(xyx hi).2;omega
end Go.Sim.M
end
