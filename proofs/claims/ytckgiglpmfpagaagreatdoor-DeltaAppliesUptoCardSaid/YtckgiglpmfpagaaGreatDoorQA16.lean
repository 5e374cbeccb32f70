/- Part 16 of the proof of the law. -/
import Derived.Test.YtckgiglpmfpagaaGreatDoorQA15
import Derived.Test.YtckgiglpmfpagaaGreatDoorCards
import Derived.Test.YtckgiglpmfpagaaGreatDoorTie
import Derived.ChangeMaps5
import Derived.Deep.DeepHandedRow
import Derived.Stop.LaidErr
import Derived.Deep.DeepLaidRun
set_option linter.unusedVariables false
set_option linter.unusedSimpArgs false
set_option linter.unusedSectionVars false
noncomputable section
set_option maxRecDepth 10000
namespace Go.Sim
open Go.RowKit Go.Proofs Go.ChangeShapes Go.WideShapes Go.ChangeAt
theorem xkX {P:Program} {w:World} (h:w.ShapedOpen P) (hg:P.globals.size<P.low):P.low<=w.heap.size:=by
 obtain ⟨o,o₀,h1,_,_⟩:=h.2 (P.low - 1) (by omega) (by unfold Program.low at hg |-;omega)
 rcases zI (P.low - 1) w.heap.size with h'|h'
 . omega
 . rw [Array.getElem?_eq_none h'] at h1;simp at h1
def xrz:DataW Unit->List Value
 | .lit (.int k n)=>[.int k n]
 | .agg l=>l.flatMap fun d=>match d with
  | .lit (.int k n)=>[.int k n]
  | .agg l'=>l'.flatMap fun d'=>match d' with
   | .lit (.int k n)=>[.int k n]
   | _=>[]
  | _=>[]
 | _=>[]
def xry (P:Program):List (String×DataW Unit)->Array Obj->Array Obj
 | [],h=>h
 | x::r,h=>xry P r (match P.globalNamed x.1 with
  | some g=>h.modify g fun o=>match o with
   | .cells _ t frozen=>.cells (xrz x.2).toArray t frozen
   | o=>o
  | none=>h)
def xrp (P:Program) (q:List (String×DataW Unit)) (os:Os):World :=
 { World.holding P os ⟨#[],#[],[]⟩ with heap:=xry P q (World.holding P os ⟨#[],#[],[]⟩).heap }
theorem xol {H:Type} {enc:TypeId×Value->H} {P:Program} {f:Func} {s:ChangeSpec} {W W':World} {args:Array Value} {ds:List (DataW H)} {q:List MemPlace} {tb:TypeId} (hs:s.vars=[])
  (hW:DataW.Whole enc P f.params.toList s.vars false W args.toList ds [] q) (O:(s.fn H ds).results=[.lit (.bool true)]/\(s.fn H ds).args=ds/\(s.fn H ds).vars=[]) (U:f.resultTypes=#[tb]) (Q:P.underlying tb=some .bool)
  (J:DataW.TrodAll enc P W' 0 (fun b=>decide (b<W.heap.size)) true f.params.toList args.toList ds q) (hb:Below W.heap.size W W'):s.post enc P f false true false false W args (.bool true) W':=by
 refine ⟨ds,[],q,[],q,[],hW,?_,?_,?_,hb.frame _,fun h=>by simp at h⟩
 . simp only [zC,O.1,U];exact trodAll_cons_mk (shut_bool Q _) trodAll_mk0
 . simpa [O.2.1] using J
 . simp only [zC,O.2.2,hs];rfl
theorem xhc {H:Type} {enc:TypeId×Value->H} {P:Program} {W W':World} (hl:laidOutB P=true) (hb:Below W.heap.size W W'):∀ {ts:List TypeId} {vs:List Value} {ds:List (DataW H)} {ps:List MemPlace},(ts.all fun t=>P.readableRec t&&decide (t<P.types.size))=true ->
  DataW.TrodAll enc P W 0 (fun _=>true) true ts vs ds ps->DataW.TrodAll enc P W' 0 (fun b=>decide (b<W.heap.size)) true ts vs ds ps
 | [],vs,ds,ps,_,h=>by
  obtain ⟨rfl,rfl,rfl⟩:=trodAll_nil h;exact trodAll_mk0
 | t::ts,vs,ds,ps,ht,h=>by
  have J:=h.lt;obtain ⟨v,Q,d,O,p,q,rfl,rfl,rfl,hd,hr⟩:=trodAll_cons h;simp only [List.all_cons,ze,zk] at ht;exact trodAll_cons_mk (Below.trod hl ht.1.1 ht.1.2 hd hb fun x hx=>J x (by simp [hx])) (xhc hl hb ht.2 hr)
section
variable {H : Type} {enc : TypeId × Value -> H} {P : Program} {w : World} {base b n : Nat} {sp : Nat -> Bool} {held : Bool} {v : Value} {d : DataW H} {ps : List MemPlace} {t : TypeId}
theorem xoi {T:Ty} (hf:flat P n t=some [T]) (hv:v.cells=#[v]) (hd:DataW.Trod enc P w b sp held t v d ps):∃ a,Rel w (fun _=>False) xr1 v a/\OfTy T a/\∀ μ:DataW H->Nat,Meas μ->a.wt<=μ d:=by
 obtain ⟨fuel,q⟩:=hd;rw [hv] at q;obtain ⟨ra,ha,hw⟩:=xgh n t [T] hf fuel _ _ q;cases ha with
 | cons h ht r=>cases r with
  | nil=>exact ⟨_,h,ht,fun μ hμ=>by simpa [AV.wts] using hw μ hμ⟩
theorem xp1 {e:TypeId} {es:List Ty} (ht:P.underlying t=some (.slice e)) (hf:flat P n t=some [.slice es]) (q:Value.okWide P w .any base t v) (hd:DataW.Trod enc P w b sp held t v d ps):∃ a,Rel w (fun _=>False) xr1 v a/\OfTy (.slice es) a/\∀ μ:DataW H->Nat,Meas μ->a.wt<=μ d:=by
 obtain ⟨x,len,cap,rfl⟩:=okWide_slice ht q;exact xoi hf rfl hd
theorem xgl {α:Type} {e:α->AV} {wf:α->Prop} {es:List Ty} (hv:∀ x:AV,x.cells.length=es.length->x=xsn x.cells->(∀ j,j<es.length->OfTy (es.getD j .bool) (x.cells.getD j .top))->∃ a,x=e a/\wf a) {x:AV} (h:OfTy (.slice es) x) :
  ∃ l:List α,x=.list es.length (l.map e)/\l.length<=maxLen/\∀ a,a∈l->wf a:=by
 cases h with
 | slice _ xs hn hl hx =>
  have:∀ xs:List AV,(∀ x,x∈xs->∃ a,x=e a/\wf a)->∃ l:List α,xs=l.map e/\∀ a,a∈l->wf a:=by
   intro xs;induction xs with
   | nil=>exact fun _=>⟨[],rfl,fun a h=>by simp at h⟩
   | cons x xs ih =>
    intro h;obtain ⟨a,rfl,ha⟩:=h x (by simp)
    obtain ⟨l,rfl,hl⟩:=ih fun y hy=>h y (by simp [hy])
    exact ⟨a::l,rfl,fun b hb=>(zB.1 hb).elim (fun he=>he▸ha) (fun hb=>hl b hb)⟩
  obtain ⟨l,rfl,hw⟩:=this xs fun x q=>hv x (hl x q).1 (hl x q).2 (fun j hj=>hx x j q hj)
  exact ⟨l,rfl,by simpa using hn,hw⟩
end
end Go.Sim
namespace Go.Sim
open Go.RowKit Go.Proofs Go.ChangeShapes Go.WideShapes Go.ChangeAt Go.Proofs.YtckgiglpmfpagaaGreatDoor
theorem xrE:laidOutB Tryz.prog=true:=by kernel_rfl
theorem xrJ:ownKnob Tryz.prog.godebug=none:=by kernel_rfl
theorem xrI:Tryz.prog.globals.size<Tryz.prog.low:=of_decide_eq_true (by kernel_rfl)
noncomputable def xrs:Nat:=(Tryz.prog.globalNamed "internal/strconv.uint64pow10").getD 0
theorem xom:Rows.laid_internal_strconv_uint64pow10=(Lib.tabData .u64 Lib.pow10Tab:DataW Unit):=by kernel_rfl
theorem xqB {W:World} {r:List (String×DataW Unit)} {a b:String×DataW Unit} (hl:r=[a,b,("internal/strconv.uint64pow10",Rows.laid_internal_strconv_uint64pow10)]) (hp:(r.all fun x=>x.2.handleName?.isNone)=true) (hL:laidMetH Tryz.prog r W) (q:W.ShapedOpen Tryz.prog):xsv W:=by
 rw [MakeChecks.laidMetH_plain _ _ _ hp] at hL;subst hl;refine ⟨q,xkX q xrI,?_⟩;have h:=hL.tail.tail;rw [xom] at h;exact Lib.tabIs_of_head (g:=xrs) (t:=(Tryz.prog.globals[xrs]?).map (·.type) |>.getD 0) (e:=176) (n:=20) (by kernel_rfl) (by kernel_rfl) (by kernel_rfl) (by kernel_rfl) (by kernel_rfl) (by kernel_rfl) h
def tyV:List Ty:=[.int .i64,.int .i64,.str]
def tyF:List Ty:=[.slice tyV,.int .i64,.int .i64]
def I64 (n:Int):Prop:=(Lit.int .i64 n).wf=true
def M.Fc.wf (x:M.Fc):Prop:=M.Row.wf x.r/\I64 x.p.1/\I64 x.p.2
theorem xph (x:AV) (hl:x.cells.length=tyV.length) (he:x=xsn x.cells) (hx:∀ j,j<tyV.length->OfTy (tyV.getD j .bool) (x.cells.getD j .top)):∃ a,x=M.encV a/\M.Val.wf a:=by
 generalize x.cells=cs at *;match cs,hl with
 | [c0,c1,c2],_ =>
  have h0:=hx 0 (by decide)
  have h1:=hx 1 (by decide)
  have h2:=hx 2 (by decide)
  change OfTy (.int .i64) c0 at h0;change OfTy (.int .i64) c1 at h1;change OfTy .str c2 at h2;cases h0 with
  | int _ k hk=>cases h1 with
   | int _ i hi=>cases h2 with
    | str t ht=>exact ⟨⟨k,i,t⟩,he,hk,hi,ht⟩
theorem xlR {x:AV} (h:OfTy (.slice tyV) x):∃ l:M.Row,x=M.encR l/\M.Row.wf l:=by
 obtain ⟨l,rfl,h1,h2⟩:=xgl xph h;exact ⟨l,rfl,h1,h2⟩
theorem xpf (x:AV) (hl:x.cells.length=tyF.length) (he:x=xsn x.cells) (hx:∀ j,j<tyF.length->OfTy (tyF.getD j .bool) (x.cells.getD j .top)):∃ a,x=M.encF a/\M.Fc.wf a:=by
 generalize x.cells=cs at *;match cs,hl with
 | [c0,c1,c2],_ =>
  have h0:=hx 0 (by decide)
  have h1:=hx 1 (by decide)
  have h2:=hx 2 (by decide)
  change OfTy (.slice tyV) c0 at h0;change OfTy (.int .i64) c1 at h1;change OfTy (.int .i64) c2 at h2;obtain ⟨l,rfl,hw⟩:=xlR h0;cases h1 with
  | int _ k hk=>cases h2 with
   | int _ i hi=>exact ⟨⟨l,(k,i)⟩,he,hw,hk,hi⟩
section
variable {H : Type} {enc : TypeId × Value -> H} {w : World} {base b : Nat} {sp : Nat -> Bool} {held : Bool} {v : Value} {d : DataW H} {ps : List MemPlace}
theorem xoh {P:Program} {t:TypeId} {n:Nat} {Ts:List Ty} {fs:Array Field} (ht:P.underlying t=some (.struct fs)) (hf:flat P n t=some Ts) (q:Value.okWide P w .any base t v) (hd:DataW.Trod enc P w b sp held t v d ps) :
  ∃ cs:List AV,Rel w (fun _=>False) xr1 v (.agg cs)/\cs.length=Ts.length/\(∀ j,j<Ts.length->OfTy (Ts.getD j .bool) (cs.getD j .top))/\∀ μ:DataW H->Nat,Meas μ->AV.wts cs<=μ d:=by
 obtain ⟨vs,rfl,_⟩:=okWide_struct ht q;obtain ⟨fuel,J⟩:=hd;obtain ⟨xs,ha,hw⟩:=xgh n t Ts hf fuel _ _ J;obtain ⟨l1,l2⟩:=ha.len;have l1':vs.size=Ts.length:=by simpa [Value.cells] using l1
 refine ⟨xs,.agg vs xs (by omega) fun i hi=>?_,l2,fun j hj=>(ha.get j hj).2,fun μ hμ=>hw μ hμ⟩
 have:=(ha.get i (by omega)).1
 simpa [Value.cells,z6,zt] using this
end
theorem xfa {H:Type}:∀ l:List (DataW H),Rows.uptoBulkAll l=(l.map Rows.uptoBulk).sum
 | []=>rfl
 | d::r=>by simp [Rows.uptoBulkAll,xfa r]
theorem xkt {H:Type}:Meas (Rows.uptoBulk (H:=H)) :=
 ⟨fun l=>by cases l<;>simp [Rows.uptoBulk],fun s=>by simp [Rows.uptoBulk],by simp [Rows.uptoBulk],fun es sp=>by simp only [Rows.uptoBulk,xfa];omega,fun l=>by simp only [Rows.uptoBulk,xfa];omega⟩
end Go.Sim
end
noncomputable section
namespace Go.Sim.M
open Go.RowKit Go.Sim.Srt
def Strict {α:Type} (c:α->α->Int) (l:List α):Prop:=l.Pairwise fun x y=>c x y<0
theorem Cm.self {α:Type} {c:α->α->Int} (h:Cm c) (x:α):c x x=0:=by have:=h.swap x x;omega
theorem Strict.nodup {α:Type} {c:α->α->Int} (hc:Cm c) {l:List α} (h:Strict c l):l.Nodup :=
 List.Pairwise.imp (fun {x y} q he=>by subst he;rw [hc.self] at q;omega) h
theorem xlO {A:List Per} (h:IsSpan A) (h0:∀ t,inL A t=false):A=[]:=xiN h xnc fun t=>by rw [h0,xgE]
structure IsLevs (N:Int->Nat) (P:List Per):Prop where
 sorted:Sorted cmpP P
 lev:∃ (A:Nat->List Per) (H:Nat),(∀ t,N t<=H)/\(∀ h,IsSpan (A h)/\∀ t,inL (A h) t=decide (h<N t))/\P.Perm ((List.range H).flatMap A)
theorem xg2 (A:Nat->List Per) (H:Nat) (h0:∀ h,H<=h->A h=[]):∀ d,(List.range (H+d)).flatMap A=(List.range H).flatMap A
 | 0=>rfl
 | d+1=>by rw [<-Nat.add_assoc,List.range_succ,List.flatMap_append,xg2 A H h0 d,zQ,h0 (H+d) (by omega)];simp
theorem IsLevs.valid {N:Int->Nat} {P:List Per} (h:IsLevs N P):∀ p,p∈P->pv p=true:=fun p hp=>by
 obtain ⟨A,H,h1,h2,h3⟩:=h.lev;obtain ⟨k,_,hk⟩:=y2.1 (h3.mem_iff.1 hp);exact (h2 k).1.1 p hk
theorem xpW {A:List Per} {N:Int->Nat} {k:Nat} (hs:IsSpan A) (hN:∀ t,inL A t=decide (k<N t)) {p:Per} (hp:p∈A):(∀ t,p.1<=t->t<p.2->k<N t)/\N (p.1 - 1)<=k/\N p.2<=k:=by
 have hv:=xbR.1 (hs.1 p hp);refine ⟨fun t h1 h2=>?_,?_,?_⟩
 . have:inL A t=true:=xbK.2 ⟨p,hp,hs.1 p hp,h1,h2⟩;rw [hN] at this;simpa using this
 . have:inL A (p.1 - 1)=false:=by
    cases hc:inL A (p.1 - 1) with
    | false=>rfl
    | true =>
     obtain ⟨q,hq,Q,h1,h2⟩:=xbK.1 hc;have hne:p≠q:=fun e=>by subst e;omega
     rcases pairwise_mem hs.2 hp hq hne with h|h<;>omega
   rw [hN] at this;simpa using this
 . have:inL A p.2=false:=by
    cases hc:inL A p.2 with
    | false=>rfl
    | true =>
     obtain ⟨q,hq,Q,h1,h2⟩:=xbK.1 hc;have hne:p≠q:=fun e=>by subst e;omega
     rcases pairwise_mem hs.2 hp hq hne with h|h<;>omega
   rw [hN] at this;simpa using this
where
 pairwise_mem {l:List Per} (h:l.Pairwise fun p q=>p.2<q.1) {p q:Per} (hp:p∈l) (hq:q∈l) (hne:p≠q):p.2<q.1\/q.2<p.1:=by
  induction l with
  | nil=>simp at hp
  | cons x l ih =>
   obtain ⟨h1,h2⟩:=zL.1 h;rcases zB.1 hp with e1|O
   . rcases zB.1 hq with e2|J
     . exact absurd (e1.trans e2.symm) hne
     . exact .inl (e1▸h1 q J)
   . rcases zB.1 hq with e2|J
     . exact .inr (e2▸h1 p O)
     . exact ih h2 O J
def cnt (l:List Fc) (r:Row) (t:Int):Nat:=l.countP fun f=>decide (f.r=r)&&hasP f.p t
def xrt (l:List Fc) (R:List Row):Prop:=Strict cmpR R/\∀ r,r∈R↔∃ f,f∈l/\f.r=r/\pv f.p=true
theorem xmu {l:List Fc} {r:Row} {t:Int}:0<cnt l r t↔∃ f,f∈l/\f.r=r/\hasP f.p t=true:=by
 unfold cnt;rw [List.countP_pos_iff];simp
theorem xoD {p:Per} (h:pv p=true):hasP p p.1=true:=by
 have:=xbR.1 h;exact xbO.2 ⟨h,by omega,by omega⟩
theorem xkn {p:Per} {t:Int} (h:hasP p t=true):pv p=true:=(xbO.1 h).1
theorem xo8 {l:List Fc} {r:Row}:(∃ f,f∈l/\f.r=r/\pv f.p=true)↔∃ t,0<cnt l r t:=by
 constructor
 . rintro ⟨f,h1,h2,h3⟩;exact ⟨f.p.1,xmu.2 ⟨f,h1,h2,xoD h3⟩⟩
 . rintro ⟨t,h⟩;obtain ⟨f,h1,h2,h3⟩:=xmu.1 h;exact ⟨f,h1,h2,xkn h3⟩
def xro (R:List Row) (L:Row->List Per):List Fc:=R.flatMap fun r=>(L r).map fun p=>⟨r,p⟩
def xrq (l B:List Fc):Prop:=∃ R L,xrt l R/\(∀ r,r∈R->IsLevs (cnt l r) (L r))/\B=xro R L
def xru (l B:List Fc):Prop:=∃ R L,xrt l R/\(∀ r,r∈R->IsSpan (L r)/\∀ t,inL (L r) t=decide (0<cnt l r t))/\B=xro R L
theorem xrt.zero {l:List Fc} {R:List Row} (h:xrt l R) {r:Row} (hr:r∉R) (t:Int):cnt l r t=0:=by
 cases hc:cnt l r t with
 | zero=>rfl
 | succ n=>exact absurd ((h.2 r).2 (xo8.2 ⟨t,by omega⟩)) hr
theorem xkg {R:List Row} {L:Row->List Per} {f:Fc} (h:f∈xro R L):f.r∈R/\f.p∈L f.r:=by
 obtain ⟨r,hr,h⟩:=y2.1 h;obtain ⟨p,hp,rfl⟩:=zJ.1 h;exact ⟨hr,hp⟩
theorem xrq.valid {l B:List Fc} (h:xrq l B) {f:Fc} (hf:f∈B):pv f.p=true/\∃ g,g∈l/\g.r=f.r:=by
 obtain ⟨R,L,h1,h2,rfl⟩:=h;obtain ⟨a,b⟩:=xkg hf;refine ⟨(h2 _ a).valid _ b,?_⟩;obtain ⟨g,g1,g2,_⟩:=(h1.2 _).1 a;exact ⟨g,g1,g2⟩
def psOf (l:List Fc) (r:Row):List Per:=(l.filter fun f=>decide (f.r=r)&&pv f.p).map (·.p)
theorem xon (l:List Fc) (r:Row) (t:Int):(psOf l r).countP (hasP · t)=cnt l r t:=by
 unfold psOf cnt;rw [List.countP_map,List.countP_filter];refine List.countP_congr fun f _=>?_
 simp only [Function.comp,ze,zk];constructor
 . rintro ⟨h1,h2,_⟩;exact ⟨h2,h1⟩
 . rintro ⟨h1,h2⟩;exact ⟨h2,h1,xkn h2⟩
theorem xm7 {ps:List Per} {t:Int} {k:Nat} (h1:k<ps.countP (hasP · t)) (h2:ps.countP (hasP · (t - 1))<=k):t∈ps.map (·.1):=by
 have:∃ p,p∈ps/\hasP p t=true/\hasP p (t - 1)=false:=by
  refine Classical.byContradiction fun hn=>?_
  have:ps.countP (hasP · t)<=ps.countP (hasP · (t - 1)):=List.countP_mono_left fun p hp h=>by
   cases hc:hasP p (t - 1) with
   | true=>rfl
   | false=>exact absurd ⟨p,hp,h,hc⟩ hn
  omega
 obtain ⟨p,hp,a,b⟩:=this;obtain ⟨hv,x,y⟩:=xbO.1 a;have:¬ p.1<=t - 1:=fun h=>by rw [xbO.2 ⟨hv,h,by omega⟩] at b;cases b
 exact zJ.2 ⟨p,hp,by omega⟩
theorem xmD {ps A:List Per} {k:Nat} (hs:IsSpan A) (hN:∀ t,inL A t=decide (k<ps.countP (hasP · t))):A.length<=ps.length:=by
 have hn:(A.map (·.1)).Nodup:=by
  unfold List.Nodup;rw [List.pairwise_map];refine List.Pairwise.imp_of_mem (fun {p q} hp hq h=>?_) hs.2
  have:=xbR.1 (hs.1 p hp);omega
 have:(A.map (·.1)) ⊆ ps.map (·.1):=fun t ht=>by
  obtain ⟨p,hp,rfl⟩:=zJ.1 ht;obtain ⟨a,b,_⟩:=xpW (N:=fun t=>ps.countP (hasP · t)) hs hN hp
  have hv:=xbR.1 (hs.1 p hp);exact xm7 (a p.1 (Int.le_refl _) (by omega)) b
 have:=hn.length_le_of_subset this;simpa using this
theorem IsLevs.len {ps P:List Per} (h:IsLevs (fun t=>ps.countP (hasP · t)) P):P.length<=ps.length*ps.length:=by
 obtain ⟨A,H,h1,h2,h3⟩:=h.lev;have hx:P.length=((List.range ps.length).flatMap A).length:=by
  rw [h3.length_eq];have nil:∀ k,ps.length<=k->A k=[]:=fun k hk=>xlO (h2 k).1 fun t=>by
   rw [(h2 k).2];have:=List.countP_le_length (p:=(hasP · t)) (l:=ps);simp;omega
  have q:∀ k,H<=k->A k=[]:=fun k hk=>xlO (h2 k).1 fun t=>by
   rw [(h2 k).2];have:=h1 t;simp;omega
  rcases Nat.le_total H ps.length with J|J
  . have:=xg2 A H q (ps.length - H);rw [show H+(ps.length - H)=ps.length by omega] at this
    rw [this]
  . have:=xg2 A ps.length nil (H - ps.length);rw [show ps.length+(H - ps.length)=H by omega] at this
    rw [this]
 rw [hx];have:=xiW (g:=A) (c:=ps.length) (List.range ps.length) fun k _=>xmD (h2 k).1 (h2 k).2
 simpa using this
theorem xhT {L:Row->List Per}:∀ {R:List Row} {l:List Fc},R.Nodup->(∀ r,r∈R->(L r).length<=(psOf l r).length*(psOf l r).length)->(xro R L).length<=l.length*l.length
 | [],l,_,_=>by simp [xro]
 | r::R,l,hn,h=>by
  obtain ⟨n1,n2⟩:=List.nodup_cons.1 hn;have e:xro (r::R) L=((L r).map fun p=>(⟨r,p⟩:Fc))++xro R L:=by simp [xro]
  let l2:=l.filter fun f=>!decide (f.r=r)
  have J:∀ r',r'∈R->psOf l2 r'=psOf l r':=fun r' q=>by
   have hne:r'≠r:=fun e=>n1 (e▸q)
   unfold psOf;simp only [l2,List.filter_filter];congr 1;refine List.filter_congr fun f _=>?_
   by_cases hf:f.r=r'
   . have:¬ f.r=r:=fun e=>hne (hf▸e)
     simp [hf,hne]
   . simp [hf]
  have ih:=xhT (L:=L) (l:=l2) n2 fun r' q=>by rw [J r' q];exact h r' (by simp [q])
  have h1:=h r (by simp)
  have hl:(psOf l r).length+l2.length<=l.length:=by
   unfold psOf;rw [z8];have:=List.length_eq_countP_add_countP (fun f:Fc=>decide (f.r=r)) (l:=l)
   have a1:(l.filter fun f=>decide (f.r=r)&&pv f.p).length<=l.countP fun f=>decide (f.r=r):=by
    rw [<-List.countP_eq_length_filter];exact List.countP_mono_left fun f _ hf=>by simp only [ze] at hf;exact hf.1
   have a2:l2.length=l.countP fun f=>¬ decide (f.r=r)=true:=by
    rw [List.countP_eq_length_filter];simp [l2]
   omega
  rw [e,z7,z8];have m1:=Nat.mul_le_mul hl hl;have m2:(psOf l r).length*(psOf l r).length+l2.length*l2.length<=((psOf l r).length+l2.length)*((psOf l r).length+l2.length):=by
   rw [Nat.add_mul,Nat.mul_add,Nat.mul_add];omega
  omega
theorem xrq.len {l B:List Fc} (h:xrq l B):B.length<=l.length*l.length:=by
 obtain ⟨R,L,h1,h2,rfl⟩:=h;refine xhT (h1.1.nodup xqy) fun r hr=>?_
 have:=h2 r hr;rw [show cnt l r=fun t=>(psOf l r).countP (hasP · t) from funext fun t=>(xon l r t).symm] at this
 exact this.len
structure StepI (N:Int->Int) (T:Int) (S:List Per):Prop where
 asc:S.Pairwise fun a b=>a.1<b.1
 mem:∀ s,s∈S↔0<=s.1/\s.1<T/\s.2=N s.1/\(s.1=0\/N (s.1 - 1)≠s.2)
 last:0<T->∃ S' f,S=S'++[(f,N (T - 1))]
theorem StepI.nil (N:Int->Int):StepI N 0 []:=⟨List.Pairwise.nil,fun s=>by simp;omega,fun h=>by omega⟩
def putS (S:List Per) (f n:Int):List Per:=match S.getLast? with
 | some s=>if s.2=n then S else S++[(f,n)]
 | none=>S++[(f,n)]
theorem StepI.put {N:Int->Int} {T T':Int} {S:List Per} (h:StepI N T S) (h0:0<=T) (q:T<T') (hc:∀ t,T<=t->t<T'->N t=N T):StepI N T' (putS S T (N T)):=by
 rcases Int.lt_or_eq_of_le h0 with hp|hz
 . obtain ⟨S',f,rfl⟩:=h.last hp;unfold putS;rw [List.getLast?_append];simp only [List.getLast?_singleton,Option.some_or];by_cases he:N (T - 1)=N T
   . rw [if_pos he];refine ⟨h.asc,fun s=>?_,fun _=>⟨S',f,by rw [he,hc (T' - 1) (by omega) (by omega)]⟩⟩
     rw [h.mem];constructor
     . rintro ⟨a,b,c,d⟩;exact ⟨a,by omega,c,d⟩
     . rintro ⟨a,b,c,d⟩;refine ⟨a,?_,c,d⟩;rcases Int.lt_or_le s.1 T with hs|hs
       . exact hs
       . exfalso;have e1:=hc s.1 hs b;rcases d with d|d
         . omega
         . rcases Int.lt_or_eq_of_le hs with h2|h2
           . have e2:=hc (s.1 - 1) (by omega) (by omega)
             exact d (by rw [e2,c,e1])
           . rw [<-h2] at d c;exact d (by rw [he,c])
   . rw [if_neg he];refine ⟨?_,fun s=>?_,fun _=>⟨_,T,by rw [hc (T' - 1) (by omega) (by omega)]⟩⟩
     . rw [List.pairwise_append];refine ⟨h.asc,List.pairwise_singleton _ _,fun a ha b hb=>?_⟩
       simp only [zu] at hb;subst hb;exact ((h.mem a).1 ha).2.1
     . rw [zF,h.mem,zu];constructor
       . rintro (⟨a,b,c,d⟩|rfl)
         . exact ⟨a,by omega,c,d⟩
         . exact ⟨h0,q,rfl,.inr he⟩
       . rintro ⟨a,b,c,d⟩;rcases Int.lt_or_le s.1 T with hs|hs
         . exact .inl ⟨a,hs,c,d⟩
         . right;have e1:=hc s.1 hs b;rcases Int.lt_or_eq_of_le hs with h2|h2
           . exfalso;have e2:=hc (s.1 - 1) (by omega) (by omega)
             rcases d with d|d
             . omega
             . exact d (by rw [e2,c,e1])
           . exact Prod.ext h2.symm (by rw [c,e1])
 . subst hz;have hS:S=[]:=by
    rw [List.eq_nil_iff_forall_not_mem];intro s hs;have:=(h.mem s).1 hs;omega
   subst hS;refine ⟨by simp [putS],fun s=>?_,fun _=>⟨[],0,by simp [putS];exact (hc (T' - 1) (by omega) (by omega)).symm⟩⟩
   simp only [putS,List.getLast?_nil,zT,zu];constructor
   . rintro rfl;exact ⟨Int.le_refl _,q,rfl,.inl rfl⟩
   . rintro ⟨a,b,c,d⟩;have e1:=hc s.1 a b;rcases Int.lt_or_eq_of_le a with h2|h2
     . exfalso;have e2:=hc (s.1 - 1) (by omega) (by omega)
       rcases d with d|d
       . omega
       . exact d (by rw [e2,c,e1])
     . exact Prod.ext h2.symm (by rw [c,e1])
end Go.Sim.M
end
noncomputable section
set_option maxRecDepth 100000
namespace Go.Sim.M
open Go.RowKit Go.Sim.Srt Go.Sort
def preS (S:List Per) (i:Nat):Int:=((S.take i).map (·.2)).sum
end Go.Sim.M
end
noncomputable section
set_option maxRecDepth 100000
namespace Go.Sim.M
open Go.RowKit Go.Sim.Srt
section
variable {α : Type} {enc : α -> AV} {okE : AV -> Bool} {ldE : AV -> AV}
structure LOk (N:Nat) (ok:α->Prop) (l:List α):Prop where
 len:l.length=N
 ok:∀ x,x∈l->ok x
theorem LOk.perm {N:Nat} {ok:α->Prop} {l l':List α} (h:LOk N ok l) (hp:l'.Perm l):LOk N ok l' :=
 ⟨hp.length_eq.trans h.len,fun z hz=>h.ok z (hp.mem_iff.1 hz)⟩
end
end Go.Sim.M
end
noncomputable section
set_option maxRecDepth 100000
namespace Go.Sim.M
open Go.RowKit Go.Sim.Srt
def xrv (l:List Row):Prop:=l.length<=1048576/\∀ x,x∈l->x.length<=1048576
theorem xrv.perm {l l':List Row} (h:xrv l) (hp:l'.Perm l):xrv l':=⟨by rw [hp.length_eq];exact h.1,fun x hx=>h.2 x (hp.mem_iff.1 hx)⟩
deriving instance DecidableEq for Fc
theorem xpT {α:Type} [DecidableEq α] {step:Int->Option (Int⊕(Bool×Bool×Unit))} (a b:List α) (hl:a.length=b.length)
  (hs:∀ (n:Nat) (h1:n<a.length) (h2:n<b.length),step (n:Int)=if a[n]=b[n] then some (.inl ((n+1:Nat):Int)) else some (.inr (true,false,())))
  (he:step (a.length:Int)=some (.inr (false,false,()))):Iter step (0:Int)=some (if a=b then (false,false,()) else (true,false,())):=by
 have key:∀ d n:Nat,n+d=a.length->Iter step (n:Int)=some (if a.drop n=b.drop n then (false,false,()) else (true,false,())):=by
  intro d;induction d with
  | zero =>
   intro n h;have:n=a.length:=by omega
   subst this;rw [zp (zb _),zp (by omega)]
   exact xbg he
  | succ d ih =>
   intro n h;have h1:n<a.length:=by omega
   have h2:n<b.length:=by omega
   have:=hs n h1 h2;have e:a.drop n=b.drop n↔a[n]=b[n]/\a.drop (n+1)=b.drop (n+1):=by rw [xc3 h1,xc3 h2,List.cons.injEq]
   by_cases hc:a[n]=b[n]
   . rw [if_pos hc] at this;rw [xbw this,ih (n+1) (by omega)]
     by_cases hr:a.drop (n+1)=b.drop (n+1)
     . rw [if_pos hr,if_pos (e.2 ⟨hc,hr⟩)]
     . rw [if_neg hr,if_neg fun h=>hr (e.1 h).2]
   . rw [if_neg hc] at this;rw [xbg this,if_neg fun h=>hc (e.1 h).1]
 have:=key a.length 0 (by omega)
 simpa using this
theorem cV0 (v:Val):((encV v).cells.getD 0 .top).toInt=v.k:=rfl
theorem cV1 (v:Val):((encV v).cells.getD 1 .top).toInt=v.i:=rfl
theorem cV2 (v:Val):((encV v).cells.getD 2 .top).toStr=v.t:=rfl
theorem lV (v:Val):((encV v).cells.length==3)=true:=rfl
theorem sV (v:Val):xrU [Sh.int .i64,Sh.int .i64,Sh.str] (encV v).cells 0=true:=rfl
theorem cmp0 (x y:Row):(cmpR x y==0)=decide (x=y):=by
 by_cases h:x=y
 . subst h;simp [xnV]
 . have:cmpR x y≠0:=fun e=>h (xkd e)
   simp [h,this]
theorem cmp1 (x y:Row):(cmpR x y != 0)=!decide (x=y):=by rw [<-cmp0];rfl
def atL (l:List Fc) (t:Int):List Row:=l.flatMap fun f=>if hasP f.p t=true then [f.r] else []
theorem xpB (l:List Fc) (t:Int):(atL l t).length<=l.length:=by
 have:=xiW (g:=fun f:Fc=>if hasP f.p t=true then [f.r] else []) (c:=1) l fun f _=>by split<;>simp
 unfold atL;omega
theorem xpC {l:List Fc} {t:Int} {r:Row} (h:r∈atL l t):∃ f,f∈l/\f.r=r/\hasP f.p t=true:=by
 obtain ⟨f,hf,h⟩:=y2.1 h;split at h
 . rename_i hp;simp only [zu] at h;exact ⟨f,hf,h.symm,hp⟩
 . simp at h
def Few (l:List Fc):Prop:=l.length<=1048576/\∀ f,f∈l->f.r.length<=1048576
theorem Few.at {l:List Fc} (h:Few l) (t:Int):xrv (atL l t):=⟨Nat.le_trans (xpB l t) h.1,fun x hx=>by obtain ⟨f,hf,rfl,_⟩:=xpC hx;exact h.2 f hf⟩
theorem xlu {α:Type} {step:Int->Option (Int⊕(Bool×Bool×Unit))} (l:List α) (p:α->Bool)
  (hs:∀ (k:Nat) (h:k<l.length),step (k:Int)=if p l[k]=true then some (.inl ((k+1:Nat):Int)) else some (.inr (true,false,())))
  (he:step (l.length:Int)=some (.inr (false,false,()))):∀ d k:Nat,k+d=l.length->Iter step (k:Int)=some (if (l.drop k).all p=true then (false,false,()) else (true,false,()))
 | 0,k,h=>by
  have:k=l.length:=by omega
  subst this;rw [zp (zb _),List.all_nil,if_pos rfl];exact xbg he
 | d+1,k,h=>by
  have hk:k<l.length:=by omega
  have:=hs k hk;have e:(l.drop k).all p=(p l[k]&&(l.drop (k+1)).all p):=by rw [xc3 hk];rfl
  rw [e];cases hc:p l[k] with
  | true =>
   rw [if_pos hc] at this;rw [xbw this,xlu l p hs he d (k+1) (by omega),Bool.true_and]
  | false =>
   rw [if_neg (by rw [hc];simp)] at this
   rw [xbg this];simp
structure Ve where
 id:Int
 sc:Int
 r:Row
 va:Per
 sy:Per
 b:Int
 u:Int
deriving DecidableEq
def encW (v:Ve):AV:=.agg [.int .i64 v.id,.int .i64 v.sc,.list 3 (v.r.map encV),.int .i64 v.va.1,.int .i64 v.va.2,.int .i64 v.sy.1,.int .i64 v.sy.2,.int .i64 v.b,.int .i64 v.u]
theorem cW0 (v:Ve):((encW v).cells.getD 0 .top).toInt=v.id:=rfl
theorem cW1 (v:Ve):((encW v).cells.getD 1 .top).toInt=v.sc:=rfl
theorem cW2 (v:Ve):((encW v).cells.getD 2 .top).toList=v.r.map encV:=rfl
theorem cW3 (v:Ve):((encW v).cells.getD 3 .top).toInt=v.va.1:=rfl
theorem cW4 (v:Ve):((encW v).cells.getD 4 .top).toInt=v.va.2:=rfl
theorem cW5 (v:Ve):((encW v).cells.getD 5 .top).toInt=v.sy.1:=rfl
theorem cW6 (v:Ve):((encW v).cells.getD 6 .top).toInt=v.sy.2:=rfl
theorem cW7 (v:Ve):((encW v).cells.getD 7 .top).toInt=v.b:=rfl
theorem cW8 (v:Ve):((encW v).cells.getD 8 .top).toInt=v.u:=rfl
theorem lW (v:Ve):((encW v).cells.length==9)=true:=rfl
theorem sW (v:Ve):xrU [Sh.int .i64,Sh.int .i64,Sh.list 3,Sh.int .i64,Sh.int .i64,Sh.int .i64,Sh.int .i64,Sh.int .i64,Sh.int .i64] (encW v).cells 0=true:=rfl
theorem sW0 (v:Ve):xrN (Sh.int .i64) ((encW v).cells.getD 0 .top)=true:=rfl
theorem sW2 (v:Ve):xrN (Sh.list 3) ((encW v).cells.getD 2 .top)=true:=rfl
theorem sW34 (v:Ve):xrU [Sh.int .i64,Sh.int .i64] (encW v).cells 3=true:=rfl
theorem sW56 (v:Ve):xrU [Sh.int .i64,Sh.int .i64] (encW v).cells 5=true:=rfl
def Ve.fc (v:Ve):Fc:=⟨v.r,v.va⟩
@[simp] theorem Ve.fc_r (v:Ve):v.fc.r=v.r:=rfl
@[simp] theorem Ve.fc_p (v:Ve):v.fc.p=v.va:=rfl
def xrr:Int:=1099511627776
def Ve.op (v:Ve):Bool:=pv v.sy&&v.sy.2==xrr
theorem xhD (l:List Ve) (hl:l.length<=1599289640401):Iter (xaX (l.map encW)) ((0:Nat),(0:Int),[])=some ((l.flatMap (fun (f:Ve)=>[Ve.fc f])).length,(l.flatMap (fun (f:Ve)=>[Ve.fc f])).map encF):=by
 refine xlv l (fun (f:Ve)=>[Ve.fc f]) encF 1 (fun f hf=>?_) (fun n h D hD=>?_) (fun D=>?_)
 . simp
 . have h1:(n:Int)<(l.length:Int):=by omega
   have m1:(D.length+1)*40<=140737488355328:=by omega
   have m2:D.length+1<=4611686018427387904:=by omega
   have gf:(l.map encW).getD n .top=encW l[n]:=xbf _ _ _ h;simp only [xaX,xcA,sBU,h,h1,gf,cW0,cW1,cW2,cW3,cW4,cW5,cW6,cW7,cW8,lW,sW,sW0,sW2,sW34,sW56,m1,m2,xrj (n:=n) (by omega)]
   simp [encF]
 . simp only [xaX,xcA,z8,zx,zl,xak,sUF]
theorem xou (l:List Ve) (hl:l.length<=1599289640401):xdT (l.map encW)=some ((l.map Ve.fc).map encF):=by
 have e:=xhD l hl;rw [xrA] at e;unfold xdT xft;simp only [xeW,xeX,xeY,e,sOO,sUF]
def fewV (l:List Ve):Bool:=decide (l.length<=16)&&l.all fun v=>decide (v.r.length<=60)
theorem xn4 {l:List Ve} (h:fewV l=true):l.length<=16/\∀ v,v∈l->v.r.length<=60:=by
 simp only [fewV,ze,zk,zH] at h;exact h
def fewF (n:Nat) (l:List Fc):Bool:=decide (l.length<=n)&&l.all fun f=>decide (f.r.length<=60)
theorem xmK (l:List Fc) (hl:l.length<=1599289640401) (n:Nat):xeb (l.map encF) (n:Int)=some (fewF n l):=by
 have q:Iter (xaI (l.map encF)) (0:Int)=some (if l.all (fun f=>decide (f.r.length<=60))=true then (false,false,()) else (true,false,())):=by
  have:=xlu (step:=xaI (l.map encF)) l (fun f=>decide (f.r.length<=60)) (fun k h=>by
   have h1:(k:Int)<(l.length:Int):=by omega
   have gf:(l.map encF).getD k .top=encF l[k]:=xbf _ _ _ h;simp only [xaI,xdq,sBU,h,h1,gf,cF0,cF1,cF2,sF0,sF1,sF2,lF,sF12,sF02,xrj (n:=k) (by omega)]
   by_cases hc:l[k].r.length<=60
   . have:¬ ((l[k].r.length:Int)>60):=by omega
     simp [hc,this,xak,sUF]
   . have:(l[k].r.length:Int)>60:=by omega
     simp [hc,this,xaN,sUF]) (by simp only [xaI,xdq,z8,zx,zl,xak,sUF]) l.length 0 (by omega)
  simpa using this
 unfold xeb xgt;rw [q];simp only [sBU];by_cases h1:(l.length:Int)>(n:Int)
 . have h2:¬ l.length<=n:=by omega
   simp [h1,h2,xaN,fewF,sUF]
 . have h2:l.length<=n:=by omega
   simp only [h1,zl,xak,fewF,h2,zm,Bool.true_and,sUF];cases l.all fun f=>decide (f.r.length<=60)<;>simp [xaN,xak,sUF]
theorem xoS (l:List Ve) (hl:l.length<=1599289640401):xgd (l.map encW)=some (fewV l):=by
 have e:=xmK (l.map Ve.fc) (by simpa using hl) 16
 have e2:((16:Nat):Int)=(16:Int):=rfl;rw [e2] at e;have e3:fewF 16 (l.map Ve.fc)=fewV l:=by unfold fewF fewV;rw [z8,List.all_map];rfl
 unfold xgd xgp;simp only [xou l hl,zj,zg,xaN,e,e3,sUF]
theorem xrD {n:Nat} (h:n<=1048576):n*32<=140737488355328/\n<=4611686018427387904:=by omega
theorem xrG (r:Row):List.take r.length (r.map encV)=r.map encV:=zh (by simp)
def outR {σ ρ:Type}:Option ρ->σ->Option (σ⊕ρ)
 | some x,_=>some (.inr x)
 | none,s=>some (.inl s)
theorem xfN {σ ρ:Type} (c:Bool) (a b:Option ρ) (s:σ):outR (br c a b) s=br c (outR a s) (outR b s):=by cases c<;>rfl
theorem xdb {σ ρ:Type} (x:ρ) (s:σ):outR (some x) s=some (.inr x):=rfl
theorem xda {σ ρ:Type} (s:σ):outR (none:Option ρ) s=some (.inl s):=rfl
theorem xjz {α β:Type} (f:α->β) (c:Bool) (a b:Option α):(br c a b).map f=br c (a.map f) (b.map f):=by cases c<;>rfl
theorem xnR {T:Type} (p q:Bool) (x y:T):br (p&&q) x y=br p (br q x y) y:=by cases p<;>rfl
theorem xcm {σ ρ α:Type} {step:σ->Option (σ⊕ρ)} (L:List α) (st:Nat->σ) (e:α->Option ρ) (r0:ρ)
  (hs:∀ (k:Nat) (h:k<L.length),step (st k)=outR (e L[k]) (st (k+1))) (he:step (st L.length)=some (.inr r0)):∀ d k:Nat,k+d=L.length->Iter step (st k)=some (((L.drop k).findSome? e).getD r0)
 | 0,k,h=>by
  have:k=L.length:=by omega
  subst this;rw [zp (zb _)];exact xbg he
 | d+1,k,h=>by
  have hk:k<L.length:=by omega
  have:=hs k hk;rw [xc3 hk,List.findSome?_cons];cases hc:e L[k] with
  | some x=>rw [hc,xdb] at this;rw [xbg this];rfl
  | none=>rw [hc,xda] at this;rw [xbw this];exact xcm L st e r0 hs he d (k+1) (by omega)
theorem xgU {α ρ:Type} (p:α->Bool) (x:ρ):∀ L:List α,L.findSome? (fun a=>br (p a) (some x) none)=br (L.any p) (some x) none
 | []=>rfl
 | a::L=>by
  rw [List.findSome?_cons,List.any_cons];cases p a with
  | true=>rfl
  | false=>exact xgU p x L
theorem xfU {α ρ τ:Type} (g:ρ->τ) (e:α->Option ρ):∀ L:List α,L.findSome? (fun a=>(e a).map g)=(L.findSome? e).map g
 | []=>rfl
 | a::L=>by
  rw [List.findSome?_cons,List.findSome?_cons];cases e a with
  | some x=>rfl
  | none=>exact xfU g e L
theorem xrH {n:Nat} (h:n<=4611686018427387904):IntKind.i64.wrap (((n+1:Nat):Int) - 1)=(n:Int):=by
 rw [xd7 (by omega) (by omega)];omega
instance:Inhabited Ve:=⟨⟨0,0,[],(0,0),(0,0),0,0⟩⟩
theorem gW {l:List Ve} {k:Nat} (h:k<l.length):(l.map encW).getD k .top=encW (l.getD k default):=by
 rw [xbf _ _ _ h,z6,zd h,zg]
theorem z0:(((0:Nat):Int)==0)=true:=rfl
theorem nn (x y:Row):(cmpR x y != 0)=!decide (x=y):=cmp1 x y
theorem xoC {l:List Ve} {i k:Nat} (h:k<(l.take i).length):(l.take i)[k]=l.getD k default:=by
 rw [zr] at h;rw [List.getElem_take,z6,zd (by omega),zg]
def xrF (st:List Per):List Int:=st.flatMap fun s=>List.replicate s.2.toNat s.1
def StOk (st:List Per):Prop:=∀ s,s∈st->1<=s.2
theorem StOk.len {st:List Per} (h:StOk st):st.length<=(xrF st).length:=by
 unfold xrF;induction st with
 | nil=>simp
 | cons s st ih =>
  have h1:=h s (by simp)
  have:=ih fun s hs=>h s (by simp [hs])
  rw [zQ,z7,zD,List.length_replicate];omega
def setF (s:List Int×List Per) (q:Int×Nat):List Int×List Per:=(s.1.take q.2++List.replicate (q.2 - s.1.length) q.1,s.2++((s.1.drop q.2).reverse.map fun f=>(f,q.1)))
theorem xiw {α β:Type} (A B:α->List β):∀ l:List α,(l.flatMap fun k=>A k++B k).Perm (l.flatMap A++l.flatMap B)
 | []=>List.Perm.refl _
 | a::l=>by
  rw [zQ,zQ,zQ];have ih:=xiw A B l;refine (ih.append_left (A a++B a)).trans ?_;rw [zv,zv];refine List.Perm.append_left _ ?_;rw [<-zv,<-zv];exact List.Perm.append_right _ List.perm_append_comm
theorem xjF {β:Type} (g:Int->β):∀ (F:List Int) (H n:Nat),F.length<=H->(List.range H).flatMap (fun k=>if n<=k then (F[k]?).toList.map g else [])=(F.drop n).map g
 | [],H,n,_=>by
  rw [List.drop_nil,zV,List.flatMap_eq_nil_iff];intro k _;split<;>simp
 | x::F,0,n,h=>by simp at h
 | x::F,H+1,n,h=>by
  rw [List.range_succ_eq_map,zQ,List.flatMap_map];have ih:=xjF g F H (n - 1) (by simpa using h)
  have e:(List.range H).flatMap (fun a=>if n<=a.succ then (((x::F)[a.succ]?).toList).map g else [])=(F.drop (n - 1)).map g:=by
   rw [<-ih];congr 1;funext a;have:(n<=a.succ)=(n - 1<=a):=by rw [eq_iff_iff];omega
   simp only [this,zY,Nat.succ_eq_add_one]
  rw [e];cases n with
  | zero=>simp
  | succ n=>simp
structure LvI (N:Int->Nat) (H:Nat) (at':Int) (F:List Int) (out:List Per) (A:Nat->List Per):Prop where
 perm:out.Perm ((List.range H).flatMap A)
 span:∀ k,IsSpan (A k)
 low:∀ k (h:k<F.length),F[k]<=at'/\0<=F[k]/\∀ p,p∈A k->p.2<F[k]
 high:∀ k,F.length<=k->∀ p,p∈A k->p.2<=at'
 cov:∀ k t,t<=at'->((inL (A k) t=true\/∃ h:k<F.length,F[k]<=t)↔k<N t)
 len:F.length=N at'
 top:F.length<=H
theorem LvI.set {N:Int->Nat} {H:Nat} {a b:Int} {F:List Int} {out:List Per} {A:Nat->List Per} (h:LvI N H a F out A) (ad:a<b) (h0:0<=b) (hb:b<=1099511627776) (hc:∀ t,a<=t->t<b->N t=N a) (hH:N b<=H) :
  ∃ A',LvI N H b (setF (F,out) (b,N b)).1 (setF (F,out) (b,N b)).2 A':=by
 have hl:=h.len;refine ⟨fun k=>A k++(if N b<=k then (F[k]?).toList.map (fun f=>(f,b)) else []),?_,?_,?_,?_,?_,?_,?_⟩
 . refine (List.Perm.append h.perm ?_).trans (xiw A _ _).symm;rw [xjF (fun f=>(f,b)) F H (N b) h.top]
   exact (List.reverse_perm _).map _
 . intro k;by_cases hk:N b<=k
   . rw [if_pos hk];by_cases J:k<F.length
     . obtain ⟨l1,l2,l3⟩:=h.low k J;rw [zd J];refine ⟨fun p hp=>?_,List.pairwise_append.2 ⟨(h.span k).2,by simp,fun p hp q hq=>?_⟩⟩
       . rcases zF.1 hp with hp|hp
         . exact (h.span k).1 p hp
         . simp at hp;subst hp;exact xbR.2 ⟨l2,by dsimp only;omega,hb⟩
       . simp at hq;subst hq;exact l3 p hp
     . rw [zy (by omega)];simpa using h.span k
   . rw [if_neg hk,zC];exact h.span k
 . intro k hk;simp only [setF] at hk |-;rw [z7,zr,List.length_replicate] at hk;have O:¬ N b<=k:=by omega
   simp only [O,if_false,zC];by_cases J:k<F.length
   . rw [List.getElem_append_left (by rw [zr];omega),List.getElem_take]
     obtain ⟨l1,l2,l3⟩:=h.low k J;exact ⟨by omega,l2,l3⟩
   . rw [List.getElem_append_right (by rw [zr];omega),List.getElem_replicate]
     exact ⟨Int.le_refl _,h0,fun p hp=>by have:=h.high k (by omega) p hp;omega⟩
 . intro k hk p hp;simp only [setF] at hk;rw [z7,zr,List.length_replicate] at hk;have O:N b<=k:=by omega
   simp only [O,if_true] at hp;by_cases J:k<F.length
   . rw [zd J] at hp;rcases zF.1 hp with hp|hp
     . obtain ⟨l1,l2,l3⟩:=h.low k J;have:=l3 p hp;omega
     . simp at hp;subst hp;exact Int.le_refl _
   . rw [zy (by omega)] at hp
     simp at hp;have:=h.high k (by omega) p hp;omega
 . intro k t ht;have U:(setF (F,out) (b,N b)).1=F.take (N b)++List.replicate (N b - F.length) b:=rfl;have key:(∃ hh:k<(setF (F,out) (b,N b)).1.length,(setF (F,out) (b,N b)).1[k]<=t)↔(k<N b/\((∃ hh:k<F.length,F[k]<=t)\/(F.length<=k/\b<=t))):=by
    constructor
    . rintro ⟨hh,Q⟩;have hh':=hh;rw [U,z7,zr,List.length_replicate] at hh';refine ⟨by omega,?_⟩
      by_cases J:k<F.length
      . refine .inl ⟨J,?_⟩;have e:(setF (F,out) (b,N b)).1[k]=F[k]:=by
         simp only [U];rw [List.getElem_append_left (by rw [zr];omega),List.getElem_take]
        rw [<-e];exact Q
      . refine .inr ⟨by omega,?_⟩
        have e:(setF (F,out) (b,N b)).1[k]=b:=by
         simp only [U];rw [List.getElem_append_right (by rw [zr];omega),List.getElem_replicate]
        rw [<-e];exact Q
    . rintro ⟨h1,h2⟩;have hh:k<(setF (F,out) (b,N b)).1.length:=by rw [U,z7,zr,List.length_replicate];omega
      refine ⟨hh,?_⟩;rcases h2 with ⟨J,Q⟩|⟨J,Q⟩
      . have e:(setF (F,out) (b,N b)).1[k]=F[k]:=by
         simp only [U];rw [List.getElem_append_left (by rw [zr];omega),List.getElem_take]
        rw [e];exact Q
      . have e:(setF (F,out) (b,N b)).1[k]=b:=by
         simp only [U];rw [List.getElem_append_right (by rw [zr];omega),List.getElem_replicate]
        rw [e];exact Q
   rw [key];have Z:inL (A k++(if N b<=k then (F[k]?).toList.map (fun f=>(f,b)) else [])) t=true↔inL (A k) t=true\/(N b<=k/\(∃ hh:k<F.length,F[k]<=t)/\t<b):=by
    rw [xet,Bool.or_eq_true];refine or_congr Iff.rfl ?_;by_cases O:N b<=k
    . rw [if_pos O];by_cases J:k<F.length
      . obtain ⟨l1,l2,l3⟩:=h.low k J;rw [zd J];have e:inL ((some F[k]).toList.map fun f=>(f,b)) t=hasP (F[k],b) t:=by simp [inL]
        rw [e,xbO,xbR];dsimp only;constructor
        . rintro ⟨_,h2,h3⟩;exact ⟨O,⟨J,h2⟩,h3⟩
        . rintro ⟨_,⟨_,h2⟩,h3⟩;exact ⟨⟨l2,by omega,hb⟩,h2,h3⟩
      . rw [zy (by omega)]
        simp only [Option.toList_none,zV,xgE,zS,false_iff];rintro ⟨_,⟨hh,_⟩,_⟩;omega
    . rw [if_neg O,xgE];simp only [zS,false_iff];rintro ⟨hh,_⟩;omega
   rw [Z];by_cases ab:t<=a
   . have aa:=h.cov k t ab;rw [<-aa];constructor
     . rintro ((h1|⟨_,h2,_⟩)|⟨_,h2|⟨_,h3⟩⟩)
       . exact .inl h1
       . exact .inr h2
       . exact .inr h2
       . omega
     . rintro (h1|h2)
       . exact .inl (.inl h1)
       . by_cases O:N b<=k
         . exact .inl (.inr ⟨O,h2,by omega⟩)
         . exact .inr ⟨by omega,.inl h2⟩
   . have Y:inL (A k) t=true->False:=fun hi=>by
      obtain ⟨p,hp,_,p1,p2⟩:=xbK.1 hi;by_cases J:k<F.length
      . obtain ⟨l1,l2,l3⟩:=h.low k J;have:=l3 p hp;omega
      . have:=h.high k (by omega) p hp;omega
     have ac:(∃ hh:k<F.length,F[k]<=t)↔k<F.length:=⟨fun ⟨hh,_⟩=>hh,fun hh=>⟨hh,by have:=(h.low k hh).1;omega⟩⟩
     rw [ac];by_cases V:t<b
     . rw [hc t (by omega) V,<-hl]
       constructor
       . rintro ((h1|⟨_,h2,_⟩)|⟨_,h2|⟨_,h3⟩⟩)
         . exact (Y h1).elim
         . exact h2
         . exact h2
         . omega
       . intro J;by_cases O:N b<=k
         . exact .inl (.inr ⟨O,J,V⟩)
         . exact .inr ⟨by omega,.inl J⟩
     . obtain rfl:t=b:=by omega
       constructor
       . rintro ((h1|⟨_,_,h2⟩)|⟨h1,_⟩)
         . exact (Y h1).elim
         . omega
         . exact h1
       . intro hk;refine .inr ⟨hk,?_⟩;by_cases J:k<F.length
         . exact .inl J
         . exact .inr ⟨by omega,Int.le_refl _⟩
 . show (F.take (N b)++List.replicate (N b - F.length) b).length=N b;rw [z7,zr,List.length_replicate];omega
 . show (F.take (N b)++List.replicate (N b - F.length) b).length<=H;rw [z7,zr,List.length_replicate];omega
end Go.Sim.M
end
