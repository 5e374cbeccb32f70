/- Part 16 of the proof of the law. -/
import Derived.Test.YtckgiglpmfpagaaGreatDoorQU15
import Derived.Test.YtckgiglpmfpagaaGreatDoorCards
import Derived.Test.YtckgiglpmfpagaaGreatDoorTie
import Derived.ChangeMaps5
import Derived.Deep.DeepHandedRow
import Derived.Stop.LaidErr
import Derived.Deep.DeepLaidRun
set_option linter.unusedVariables false
set_option linter.unusedSimpArgs false
set_option linter.unusedSectionVars false
noncomputable section
set_option maxRecDepth 10000
namespace Go.Sim
open Go.RowKit Go.Proofs Go.ChangeShapes Go.WideShapes Go.ChangeAt
theorem xjo {P:Program} {w:World} (h:w.ShapedOpen P) (hg:P.globals.size<P.low):P.low<=w.heap.size:=by
 obtain ⟨o,o₀,h1,_,_⟩:=h.2 (P.low - 1) (by omega) (by unfold Program.low at hg |-;omega)
 rcases zJ (P.low - 1) w.heap.size with h'|h'
 . omega
 . rw [Array.getElem?_eq_none h'] at h1;simp at h1
def xpD:DataW Unit->List Value
 | .lit (.int k n)=>[.int k n]
 | .agg l=>l.flatMap fun d=>match d with
  | .lit (.int k n)=>[.int k n]
  | .agg l'=>l'.flatMap fun d'=>match d' with
   | .lit (.int k n)=>[.int k n]
   | _=>[]
  | _=>[]
 | _=>[]
def xpC (P:Program):List (String×DataW Unit)->Array Obj->Array Obj
 | [],h=>h
 | x::r,h=>xpC P r (match P.globalNamed x.1 with
  | some g=>h.modify g fun o=>match o with
   | .cells _ t frozen=>.cells (xpD x.2).toArray t frozen
   | o=>o
  | none=>h)
def xpv (P:Program) (q:List (String×DataW Unit)) (os:Os):World :=
 { World.holding P os ⟨#[],#[],[]⟩ with heap:=xpC P q (World.holding P os ⟨#[],#[],[]⟩).heap }
theorem xmt {H:Type} {enc:TypeId×Value->H} {P:Program} {f:Func} {s:ChangeSpec} {W W':World} {args:Array Value} {ds:List (DataW H)} {q:List MemPlace} {tb:TypeId} (hs:s.vars=[])
  (hW:DataW.Whole enc P f.params.toList s.vars false W args.toList ds [] q) (O:(s.fn H ds).results=[.lit (.bool true)]/\(s.fn H ds).args=ds/\(s.fn H ds).vars=[]) (U:f.resultTypes=#[tb]) (Q:P.underlying tb=some .bool)
  (J:DataW.TrodAll enc P W' 0 (fun b=>decide (b<W.heap.size)) true f.params.toList args.toList ds q) (hb:Below W.heap.size W W'):s.post enc P f false true false false W args (.bool true) W':=by
 refine ⟨ds,[],q,[],q,[],hW,?_,?_,?_,hb.frame _,fun h=>by simp at h⟩
 . simp only [zD,O.1,U];exact trodAll_cons_mk (shut_bool Q _) trodAll_mk0
 . simpa [O.2.1] using J
 . simp only [zD,O.2.2,hs];rfl
theorem xfQ {H:Type} {enc:TypeId×Value->H} {P:Program} {W W':World} (hl:laidOutB P=true) (hb:Below W.heap.size W W'):∀ {ts:List TypeId} {vs:List Value} {ds:List (DataW H)} {ps:List MemPlace},(ts.all fun t=>P.readableRec t&&decide (t<P.types.size))=true ->
  DataW.TrodAll enc P W 0 (fun _=>true) true ts vs ds ps->DataW.TrodAll enc P W' 0 (fun b=>decide (b<W.heap.size)) true ts vs ds ps
 | [],vs,ds,ps,_,h=>by
  obtain ⟨rfl,rfl,rfl⟩:=trodAll_nil h;exact trodAll_mk0
 | t::ts,vs,ds,ps,ht,h=>by
  have J:=h.lt;obtain ⟨v,O,d,Q,p,q,rfl,rfl,rfl,hd,hr⟩:=trodAll_cons h;simp only [List.all_cons,zf,zl] at ht;exact trodAll_cons_mk (Below.trod hl ht.1.1 ht.1.2 hd hb fun x hx=>J x (by simp [hx])) (xfQ hl hb ht.2 hr)
section
variable {H : Type} {enc : TypeId × Value -> H} {P : Program} {w : World} {base b n : Nat} {sp : Nat -> Bool} {held : Bool} {v : Value} {d : DataW H} {ps : List MemPlace} {t : TypeId}
theorem xi4 {T:Ty} (hf:flat P n t=some [T]) (hv:v.cells=#[v]) (hd:DataW.Trod enc P w b sp held t v d ps):∃ a,Rel w (fun _=>False) xp6 v a/\OfTy T a/\∀ μ:DataW H->Nat,Meas μ->a.wt<=μ d:=by
 obtain ⟨fuel,q⟩:=hd;rw [hv] at q;obtain ⟨ra,ha,hw⟩:=xgw n t [T] hf fuel _ _ q;cases ha with
 | cons h ht r=>cases r with
  | nil=>exact ⟨_,h,ht,fun μ hμ=>by simpa [AV.wts] using hw μ hμ⟩
theorem xn6 {e:TypeId} {es:List Ty} (ht:P.underlying t=some (.slice e)) (hf:flat P n t=some [.slice es]) (q:Value.okWide P w .any base t v) (hd:DataW.Trod enc P w b sp held t v d ps):∃ a,Rel w (fun _=>False) xp6 v a/\OfTy (.slice es) a/\∀ μ:DataW H->Nat,Meas μ->a.wt<=μ d:=by
 obtain ⟨x,len,cap,rfl⟩:=okWide_slice ht q;exact xi4 hf rfl hd
theorem xn5 {k:IntKind} (ht:P.underlying t=some (.int k)) (q:Value.okWide P w .any base t v) (hd:DataW.Trod enc P w b sp held t v d ps):∃ m,Rel w (fun _=>False) xp6 v (.int k m)/\(Lit.int k m).wf=true/\∀ μ:DataW H->Nat,Meas μ->(AV.int k m).wt<=μ d:=by
 obtain ⟨m,rfl⟩:=okWide_int ht q;obtain ⟨a,h,hT,hB⟩:=xi4 (n:=1) (T:=.int k) (by simp [flat,ht]) rfl hd
 cases hT with
 | int _ m' hw =>
  obtain rfl:m'=m:=by cases h;rfl
  exact ⟨m',h,hw,hB⟩
theorem xji {α:Type} {e:α->AV} {wf:α->Prop} {es:List Ty} (hv:∀ x:AV,x.cells.length=es.length->x=xqs x.cells->(∀ j,j<es.length->OfTy (es.getD j .bool) (x.cells.getD j .top))->∃ a,x=e a/\wf a) {x:AV} (h:OfTy (.slice es) x) :
  ∃ l:List α,x=.list es.length (l.map e)/\l.length<=maxLen/\∀ a,a∈l->wf a:=by
 cases h with
 | slice _ xs hn hl hx =>
  have:∀ xs:List AV,(∀ x,x∈xs->∃ a,x=e a/\wf a)->∃ l:List α,xs=l.map e/\∀ a,a∈l->wf a:=by
   intro xs;induction xs with
   | nil=>exact fun _=>⟨[],rfl,fun a h=>by simp at h⟩
   | cons x xs ih =>
    intro h;obtain ⟨a,rfl,ha⟩:=h x (by simp)
    obtain ⟨l,rfl,hl⟩:=ih fun y hy=>h y (by simp [hy])
    exact ⟨a::l,rfl,fun b hb=>(zC.1 hb).elim (fun he=>he▸ha) (fun hb=>hl b hb)⟩
  obtain ⟨l,rfl,hw⟩:=this xs fun x q=>hv x (hl x q).1 (hl x q).2 (fun j hj=>hx x j q hj)
  exact ⟨l,rfl,by simpa using hn,hw⟩
end
end Go.Sim
namespace Go.Sim
open Go.RowKit Go.Proofs Go.ChangeShapes Go.WideShapes Go.ChangeAt Go.Proofs.YtckgiglpmfpagaaGreatDoor
theorem xpH:laidOutB Tryz.prog=true:=by kernel_rfl
theorem xpM:ownKnob Tryz.prog.godebug=none:=by kernel_rfl
theorem xpL:Tryz.prog.globals.size<Tryz.prog.low:=of_decide_eq_true (by kernel_rfl)
noncomputable def xpy:Nat:=(Tryz.prog.globalNamed "internal/strconv.uint64pow10").getD 0
theorem xmu:Rows.laid_internal_strconv_uint64pow10=(Lib.tabData .u64 Lib.pow10Tab:DataW Unit):=by kernel_rfl
theorem xoF {W:World} {r:List (String×DataW Unit)} {a b:String×DataW Unit} (hl:r=[a,b,("internal/strconv.uint64pow10",Rows.laid_internal_strconv_uint64pow10)]) (hp:(r.all fun x=>x.2.handleName?.isNone)=true) (hL:laidMetH Tryz.prog r W) (q:W.ShapedOpen Tryz.prog):xqB W:=by
 rw [MakeChecks.laidMetH_plain _ _ _ hp] at hL;subst hl;refine ⟨q,xjo q xpL,?_⟩;have h:=hL.tail.tail;rw [xmu] at h;exact Lib.tabIs_of_head (g:=xpy) (t:=(Tryz.prog.globals[xpy]?).map (·.type) |>.getD 0) (e:=176) (n:=20) (by kernel_rfl) (by kernel_rfl) (by kernel_rfl) (by kernel_rfl) (by kernel_rfl) (by kernel_rfl) h
def tyV:List Ty:=[.int .i64,.int .i64,.str]
def I64 (n:Int):Prop:=(Lit.int .i64 n).wf=true
def M.Fc.wf (x:M.Fc):Prop:=M.Row.wf x.r/\I64 x.p.1/\I64 x.p.2
theorem xnn (x:AV) (hl:x.cells.length=tyV.length) (he:x=xqs x.cells) (hx:∀ j,j<tyV.length->OfTy (tyV.getD j .bool) (x.cells.getD j .top)):∃ a,x=M.encV a/\M.Val.wf a:=by
 generalize x.cells=cs at *;match cs,hl with
 | [c0,c1,c2],_ =>
  have h0:=hx 0 (by decide)
  have h1:=hx 1 (by decide)
  have h2:=hx 2 (by decide)
  change OfTy (.int .i64) c0 at h0;change OfTy (.int .i64) c1 at h1;change OfTy .str c2 at h2;cases h0 with
  | int _ k hk=>cases h1 with
   | int _ i hi=>cases h2 with
    | str t ht=>exact ⟨⟨k,i,t⟩,he,hk,hi,ht⟩
theorem xnm {x:AV} (h:OfTy (.slice tyV) x):∃ l:M.Row,x=M.encR l/\M.Row.wf l:=by
 obtain ⟨l,rfl,h1,h2⟩:=xji xnn h;exact ⟨l,rfl,h1,h2⟩
section
variable {H : Type} {enc : TypeId × Value -> H} {w : World} {base b : Nat} {sp : Nat -> Bool} {held : Bool} {v : Value} {d : DataW H} {ps : List MemPlace}
theorem xm6 (q:Value.okWide Tryz.prog w .any base 3 v) (hd:DataW.Trod enc Tryz.prog w b sp held 3 v d ps):∃ m:Int,Rel w (fun _=>False) xp6 v (.int .i64 m)/\(∀ μ:DataW H->Nat,Meas μ->(AV.int .i64 m).wt<=μ d)/\(Lit.int .i64 m).wf=true:=by
 obtain ⟨m,h1,h2,h3⟩:=xn5 Tryz.underlying3 q hd;exact ⟨m,h1,h3,h2⟩
end
theorem xdJ {H:Type}:∀ l:List (DataW H),Rows.uptoBulkAll l=(l.map Rows.uptoBulk).sum
 | []=>rfl
 | d::r=>by simp [Rows.uptoBulkAll,xdJ r]
theorem xi0 {H:Type}:Meas (Rows.uptoBulk (H:=H)) :=
 ⟨fun l=>by cases l<;>simp [Rows.uptoBulk],fun s=>by simp [Rows.uptoBulk],by simp [Rows.uptoBulk],fun es sp=>by simp only [Rows.uptoBulk,xdJ];omega,fun l=>by simp only [Rows.uptoBulk,xdJ];omega⟩
end Go.Sim
end
noncomputable section
namespace Go.Sim.M
open Go.RowKit Go.Sim.Srt
def Strict {α:Type} (c:α->α->Int) (l:List α):Prop:=l.Pairwise fun x y=>c x y<0
theorem Cm.self {α:Type} {c:α->α->Int} (h:Cm c) (x:α):c x x=0:=by have:=h.swap x x;omega
theorem Strict.nodup {α:Type} {c:α->α->Int} (hc:Cm c) {l:List α} (h:Strict c l):l.Nodup :=
 List.Pairwise.imp (fun {x y} q he=>by subst he;rw [hc.self] at q;omega) h
theorem xj8 {A:List Per} (h:IsSpan A) (h0:∀ t,inL A t=false):A=[]:=xhj h xlm fun t=>by rw [h0,xfl]
structure IsLevs (N:Int->Nat) (P:List Per):Prop where
 sorted:Sorted cmpP P
 lev:∃ (A:Nat->List Per) (H:Nat),(∀ t,N t<=H)/\(∀ h,IsSpan (A h)/\∀ t,inL (A h) t=decide (h<N t))/\P.Perm ((List.range H).flatMap A)
theorem xfG (A:Nat->List Per) (H:Nat) (h0:∀ h,H<=h->A h=[]):∀ d,(List.range (H+d)).flatMap A=(List.range H).flatMap A
 | 0=>rfl
 | d+1=>by rw [<-Nat.add_assoc,List.range_succ,List.flatMap_append,xfG A H h0 d,zR,h0 (H+d) (by omega)];simp
theorem IsLevs.valid {N:Int->Nat} {P:List Per} (h:IsLevs N P):∀ p,p∈P->pv p=true:=fun p hp=>by
 obtain ⟨A,H,h1,h2,h3⟩:=h.lev;obtain ⟨k,_,hk⟩:=y3.1 (h3.mem_iff.1 hp);exact (h2 k).1.1 p hk
theorem xnx {A:List Per} {N:Int->Nat} {k:Nat} (hs:IsSpan A) (hN:∀ t,inL A t=decide (k<N t)) {p:Per} (hp:p∈A):(∀ t,p.1<=t->t<p.2->k<N t)/\N (p.1 - 1)<=k/\N p.2<=k:=by
 have hv:=xbp.1 (hs.1 p hp);refine ⟨fun t h1 h2=>?_,?_,?_⟩
 . have:inL A t=true:=xbj.2 ⟨p,hp,hs.1 p hp,h1,h2⟩;rw [hN] at this;simpa using this
 . have:inL A (p.1 - 1)=false:=by
    cases hc:inL A (p.1 - 1) with
    | false=>rfl
    | true =>
     obtain ⟨q,hq,Q,h1,h2⟩:=xbj.1 hc;have hne:p≠q:=fun e=>by subst e;omega
     rcases pairwise_mem hs.2 hp hq hne with h|h<;>omega
   rw [hN] at this;simpa using this
 . have:inL A p.2=false:=by
    cases hc:inL A p.2 with
    | false=>rfl
    | true =>
     obtain ⟨q,hq,Q,h1,h2⟩:=xbj.1 hc;have hne:p≠q:=fun e=>by subst e;omega
     rcases pairwise_mem hs.2 hp hq hne with h|h<;>omega
   rw [hN] at this;simpa using this
where
 pairwise_mem {l:List Per} (h:l.Pairwise fun p q=>p.2<q.1) {p q:Per} (hp:p∈l) (hq:q∈l) (hne:p≠q):p.2<q.1\/q.2<p.1:=by
  induction l with
  | nil=>simp at hp
  | cons x l ih =>
   obtain ⟨h1,h2⟩:=zM.1 h;rcases zC.1 hp with e1|O
   . rcases zC.1 hq with e2|J
     . exact absurd (e1.trans e2.symm) hne
     . exact .inl (e1▸h1 q J)
   . rcases zC.1 hq with e2|J
     . exact .inr (e2▸h1 p O)
     . exact ih h2 O J
def cnt (l:List Fc) (r:Row) (t:Int):Nat:=l.countP fun f=>decide (f.r=r)&&hasP f.p t
def xpz (l:List Fc) (R:List Row):Prop:=Strict cmpR R/\∀ r,r∈R↔∃ f,f∈l/\f.r=r/\pv f.p=true
theorem xkL {l:List Fc} {r:Row} {t:Int}:0<cnt l r t↔∃ f,f∈l/\f.r=r/\hasP f.p t=true:=by
 unfold cnt;rw [List.countP_pos_iff];simp
theorem xmL {p:Per} (h:pv p=true):hasP p p.1=true:=by
 have:=xbp.1 h;exact xbm.2 ⟨h,by omega,by omega⟩
theorem xiV {p:Per} {t:Int} (h:hasP p t=true):pv p=true:=(xbm.1 h).1
theorem xnc {l:List Fc} {r:Row}:(∃ f,f∈l/\f.r=r/\pv f.p=true)↔∃ t,0<cnt l r t:=by
 constructor
 . rintro ⟨f,h1,h2,h3⟩;exact ⟨f.p.1,xkL.2 ⟨f,h1,h2,xmL h3⟩⟩
 . rintro ⟨t,h⟩;obtain ⟨f,h1,h2,h3⟩:=xkL.1 h;exact ⟨f,h1,h2,xiV h3⟩
def xpu (R:List Row) (L:Row->List Per):List Fc:=R.flatMap fun r=>(L r).map fun p=>⟨r,p⟩
def xpw (l B:List Fc):Prop:=∃ R L,xpz l R/\(∀ r,r∈R->IsLevs (cnt l r) (L r))/\B=xpu R L
def xpA (l B:List Fc):Prop:=∃ R L,xpz l R/\(∀ r,r∈R->IsSpan (L r)/\∀ t,inL (L r) t=decide (0<cnt l r t))/\B=xpu R L
theorem xpz.zero {l:List Fc} {R:List Row} (h:xpz l R) {r:Row} (hr:r∉R) (t:Int):cnt l r t=0:=by
 cases hc:cnt l r t with
 | zero=>rfl
 | succ n=>exact absurd ((h.2 r).2 (xnc.2 ⟨t,by omega⟩)) hr
theorem xiP {R:List Row} {L:Row->List Per} {f:Fc} (h:f∈xpu R L):f.r∈R/\f.p∈L f.r:=by
 obtain ⟨r,hr,h⟩:=y3.1 h;obtain ⟨p,hp,rfl⟩:=zK.1 h;exact ⟨hr,hp⟩
theorem xpw.valid {l B:List Fc} (h:xpw l B) {f:Fc} (hf:f∈B):pv f.p=true/\∃ g,g∈l/\g.r=f.r:=by
 obtain ⟨R,L,h1,h2,rfl⟩:=h;obtain ⟨a,b⟩:=xiP hf;refine ⟨(h2 _ a).valid _ b,?_⟩;obtain ⟨g,g1,g2,_⟩:=(h1.2 _).1 a;exact ⟨g,g1,g2⟩
def psOf (l:List Fc) (r:Row):List Per:=(l.filter fun f=>decide (f.r=r)&&pv f.p).map (·.p)
theorem xmv (l:List Fc) (r:Row) (t:Int):(psOf l r).countP (hasP · t)=cnt l r t:=by
 unfold psOf cnt;rw [List.countP_map,List.countP_filter];refine List.countP_congr fun f _=>?_
 simp only [Function.comp,zf,zl];constructor
 . rintro ⟨h1,h2,_⟩;exact ⟨h2,h1⟩
 . rintro ⟨h1,h2⟩;exact ⟨h2,h1,xiV h2⟩
theorem xlh {ps:List Per} {t:Int} {k:Nat} (h1:k<ps.countP (hasP · t)) (h2:ps.countP (hasP · (t - 1))<=k):t∈ps.map (·.1):=by
 have:∃ p,p∈ps/\hasP p t=true/\hasP p (t - 1)=false:=by
  refine Classical.byContradiction fun hn=>?_
  have:ps.countP (hasP · t)<=ps.countP (hasP · (t - 1)):=List.countP_mono_left fun p hp h=>by
   cases hc:hasP p (t - 1) with
   | true=>rfl
   | false=>exact absurd ⟨p,hp,h,hc⟩ hn
  omega
 obtain ⟨p,hp,a,b⟩:=this;obtain ⟨hv,x,y⟩:=xbm.1 a;have:¬ p.1<=t - 1:=fun h=>by rw [xbm.2 ⟨hv,h,by omega⟩] at b;cases b
 exact zK.2 ⟨p,hp,by omega⟩
theorem xkR {ps A:List Per} {k:Nat} (hs:IsSpan A) (hN:∀ t,inL A t=decide (k<ps.countP (hasP · t))):A.length<=ps.length:=by
 have hn:(A.map (·.1)).Nodup:=by
  unfold List.Nodup;rw [List.pairwise_map];refine List.Pairwise.imp_of_mem (fun {p q} hp hq h=>?_) hs.2
  have:=xbp.1 (hs.1 p hp);omega
 have:(A.map (·.1)) ⊆ ps.map (·.1):=fun t ht=>by
  obtain ⟨p,hp,rfl⟩:=zK.1 ht;obtain ⟨a,b,_⟩:=xnx (N:=fun t=>ps.countP (hasP · t)) hs hN hp
  have hv:=xbp.1 (hs.1 p hp);exact xlh (a p.1 (Int.le_refl _) (by omega)) b
 have:=hn.length_le_of_subset this;simpa using this
theorem IsLevs.len {ps P:List Per} (h:IsLevs (fun t=>ps.countP (hasP · t)) P):P.length<=ps.length*ps.length:=by
 obtain ⟨A,H,h1,h2,h3⟩:=h.lev;have hx:P.length=((List.range ps.length).flatMap A).length:=by
  rw [h3.length_eq];have nil:∀ k,ps.length<=k->A k=[]:=fun k hk=>xj8 (h2 k).1 fun t=>by
   rw [(h2 k).2];have:=List.countP_le_length (p:=(hasP · t)) (l:=ps);simp;omega
  have q:∀ k,H<=k->A k=[]:=fun k hk=>xj8 (h2 k).1 fun t=>by
   rw [(h2 k).2];have:=h1 t;simp;omega
  rcases Nat.le_total H ps.length with J|J
  . have:=xfG A H q (ps.length - H);rw [show H+(ps.length - H)=ps.length by omega] at this
    rw [this]
  . have:=xfG A ps.length nil (H - ps.length);rw [show ps.length+(H - ps.length)=H by omega] at this
    rw [this]
 rw [hx];have:=xfA (g:=A) (c:=ps.length) (List.range ps.length) fun k _=>xkR (h2 k).1 (h2 k).2
 simpa using this
theorem xgq {L:Row->List Per}:∀ {R:List Row} {l:List Fc},R.Nodup->(∀ r,r∈R->(L r).length<=(psOf l r).length*(psOf l r).length)->(xpu R L).length<=l.length*l.length
 | [],l,_,_=>by simp [xpu]
 | r::R,l,hn,h=>by
  obtain ⟨n1,n2⟩:=List.nodup_cons.1 hn;have e:xpu (r::R) L=((L r).map fun p=>(⟨r,p⟩:Fc))++xpu R L:=by simp [xpu]
  let l2:=l.filter fun f=>!decide (f.r=r)
  have J:∀ r',r'∈R->psOf l2 r'=psOf l r':=fun r' q=>by
   have hne:r'≠r:=fun e=>n1 (e▸q)
   unfold psOf;simp only [l2,List.filter_filter];congr 1;refine List.filter_congr fun f _=>?_
   by_cases hf:f.r=r'
   . have:¬ f.r=r:=fun e=>hne (hf▸e)
     simp [hf,hne]
   . simp [hf]
  have ih:=xgq (L:=L) (l:=l2) n2 fun r' q=>by rw [J r' q];exact h r' (by simp [q])
  have h1:=h r (by simp)
  have hl:(psOf l r).length+l2.length<=l.length:=by
   unfold psOf;rw [za];have:=List.length_eq_countP_add_countP (fun f:Fc=>decide (f.r=r)) (l:=l)
   have a1:(l.filter fun f=>decide (f.r=r)&&pv f.p).length<=l.countP fun f=>decide (f.r=r):=by
    rw [<-List.countP_eq_length_filter];exact List.countP_mono_left fun f _ hf=>by simp only [zf] at hf;exact hf.1
   have a2:l2.length=l.countP fun f=>¬ decide (f.r=r)=true:=by
    rw [List.countP_eq_length_filter];simp [l2]
   omega
  rw [e,z8,za];have m1:=Nat.mul_le_mul hl hl;have m2:(psOf l r).length*(psOf l r).length+l2.length*l2.length<=((psOf l r).length+l2.length)*((psOf l r).length+l2.length):=by
   rw [Nat.add_mul,Nat.mul_add,Nat.mul_add];omega
  omega
theorem xpw.len {l B:List Fc} (h:xpw l B):B.length<=l.length*l.length:=by
 obtain ⟨R,L,h1,h2,rfl⟩:=h;refine xgq (h1.1.nodup xoC) fun r hr=>?_
 have:=h2 r hr;rw [show cnt l r=fun t=>(psOf l r).countP (hasP · t) from funext fun t=>(xmv l r t).symm] at this
 exact this.len
structure StepI (N:Int->Int) (T:Int) (S:List Per):Prop where
 asc:S.Pairwise fun a b=>a.1<b.1
 mem:∀ s,s∈S↔0<=s.1/\s.1<T/\s.2=N s.1/\(s.1=0\/N (s.1 - 1)≠s.2)
 last:0<T->∃ S' f,S=S'++[(f,N (T - 1))]
theorem StepI.nil (N:Int->Int):StepI N 0 []:=⟨List.Pairwise.nil,fun s=>by simp;omega,fun h=>by omega⟩
def putS (S:List Per) (f n:Int):List Per:=match S.getLast? with
 | some s=>if s.2=n then S else S++[(f,n)]
 | none=>S++[(f,n)]
theorem StepI.put {N:Int->Int} {T T':Int} {S:List Per} (h:StepI N T S) (h0:0<=T) (q:T<T') (hc:∀ t,T<=t->t<T'->N t=N T):StepI N T' (putS S T (N T)):=by
 rcases Int.lt_or_eq_of_le h0 with hp|hz
 . obtain ⟨S',f,rfl⟩:=h.last hp;unfold putS;rw [List.getLast?_append];simp only [List.getLast?_singleton,Option.some_or];by_cases he:N (T - 1)=N T
   . rw [if_pos he];refine ⟨h.asc,fun s=>?_,fun _=>⟨S',f,by rw [he,hc (T' - 1) (by omega) (by omega)]⟩⟩
     rw [h.mem];constructor
     . rintro ⟨a,b,c,d⟩;exact ⟨a,by omega,c,d⟩
     . rintro ⟨a,b,c,d⟩;refine ⟨a,?_,c,d⟩;rcases Int.lt_or_le s.1 T with hs|hs
       . exact hs
       . exfalso;have e1:=hc s.1 hs b;rcases d with d|d
         . omega
         . rcases Int.lt_or_eq_of_le hs with h2|h2
           . have e2:=hc (s.1 - 1) (by omega) (by omega)
             exact d (by rw [e2,c,e1])
           . rw [<-h2] at d c;exact d (by rw [he,c])
   . rw [if_neg he];refine ⟨?_,fun s=>?_,fun _=>⟨_,T,by rw [hc (T' - 1) (by omega) (by omega)]⟩⟩
     . rw [List.pairwise_append];refine ⟨h.asc,List.pairwise_singleton _ _,fun a ha b hb=>?_⟩
       simp only [zv] at hb;subst hb;exact ((h.mem a).1 ha).2.1
     . rw [zG,h.mem,zv];constructor
       . rintro (⟨a,b,c,d⟩|rfl)
         . exact ⟨a,by omega,c,d⟩
         . exact ⟨h0,q,rfl,.inr he⟩
       . rintro ⟨a,b,c,d⟩;rcases Int.lt_or_le s.1 T with hs|hs
         . exact .inl ⟨a,hs,c,d⟩
         . right;have e1:=hc s.1 hs b;rcases Int.lt_or_eq_of_le hs with h2|h2
           . exfalso;have e2:=hc (s.1 - 1) (by omega) (by omega)
             rcases d with d|d
             . omega
             . exact d (by rw [e2,c,e1])
           . exact Prod.ext h2.symm (by rw [c,e1])
 . subst hz;have hS:S=[]:=by
    rw [List.eq_nil_iff_forall_not_mem];intro s hs;have:=(h.mem s).1 hs;omega
   subst hS;refine ⟨by simp [putS],fun s=>?_,fun _=>⟨[],0,by simp [putS];exact (hc (T' - 1) (by omega) (by omega)).symm⟩⟩
   simp only [putS,List.getLast?_nil,zU,zv];constructor
   . rintro rfl;exact ⟨Int.le_refl _,q,rfl,.inl rfl⟩
   . rintro ⟨a,b,c,d⟩;have e1:=hc s.1 a b;rcases Int.lt_or_eq_of_le a with h2|h2
     . exfalso;have e2:=hc (s.1 - 1) (by omega) (by omega)
       rcases d with d|d
       . omega
       . exact d (by rw [e2,c,e1])
     . exact Prod.ext h2.symm (by rw [c,e1])
end Go.Sim.M
end
noncomputable section
set_option maxRecDepth 100000
namespace Go.Sim.M
open Go.RowKit Go.Sim.Srt Go.Sort
def preS (S:List Per) (i:Nat):Int:=((S.take i).map (·.2)).sum
end Go.Sim.M
end
noncomputable section
set_option maxRecDepth 100000
namespace Go.Sim.M
open Go.RowKit Go.Sim.Srt
section
variable {α : Type} {enc : α -> AV} {okE : AV -> Bool} {ldE : AV -> AV}
structure LOk (N:Nat) (ok:α->Prop) (l:List α):Prop where
 len:l.length=N
 ok:∀ x,x∈l->ok x
theorem LOk.perm {N:Nat} {ok:α->Prop} {l l':List α} (h:LOk N ok l) (hp:l'.Perm l):LOk N ok l' :=
 ⟨hp.length_eq.trans h.len,fun z hz=>h.ok z (hp.mem_iff.1 hz)⟩
end
end Go.Sim.M
end
noncomputable section
set_option maxRecDepth 100000
namespace Go.Sim.M
open Go.RowKit Go.Sim.Srt
def xpB (l:List Row):Prop:=l.length<=1048576/\∀ x,x∈l->x.length<=1048576
theorem xpB.perm {l l':List Row} (h:xpB l) (hp:l'.Perm l):xpB l':=⟨by rw [hp.length_eq];exact h.1,fun x hx=>h.2 x (hp.mem_iff.1 hx)⟩
deriving instance DecidableEq for Fc
theorem xnX {α:Type} [DecidableEq α] {step:Int->Option (Int⊕(Bool×Bool×Unit))} (a b:List α) (hl:a.length=b.length)
  (hs:∀ (n:Nat) (h1:n<a.length) (h2:n<b.length),step (n:Int)=if a[n]=b[n] then some (.inl ((n+1:Nat):Int)) else some (.inr (true,false,())))
  (he:step (a.length:Int)=some (.inr (false,false,()))):Iter step (0:Int)=some (if a=b then (false,false,()) else (true,false,())):=by
 have key:∀ d n:Nat,n+d=a.length->Iter step (n:Int)=some (if a.drop n=b.drop n then (false,false,()) else (true,false,())):=by
  intro d;induction d with
  | zero =>
   intro n h;have:n=a.length:=by omega
   subst this;rw [zq (zd _),zq (by omega)]
   exact xbe he
  | succ d ih =>
   intro n h;have h1:n<a.length:=by omega
   have h2:n<b.length:=by omega
   have:=hs n h1 h2;have e:a.drop n=b.drop n↔a[n]=b[n]/\a.drop (n+1)=b.drop (n+1):=by rw [xcr h1,xcr h2,List.cons.injEq]
   by_cases hc:a[n]=b[n]
   . rw [if_pos hc] at this;rw [xby this,ih (n+1) (by omega)]
     by_cases hr:a.drop (n+1)=b.drop (n+1)
     . rw [if_pos hr,if_pos (e.2 ⟨hc,hr⟩)]
     . rw [if_neg hr,if_neg fun h=>hr (e.1 h).2]
   . rw [if_neg hc] at this;rw [xbe this,if_neg fun h=>hc (e.1 h).1]
 have:=key a.length 0 (by omega)
 simpa using this
theorem cV0 (v:Val):((encV v).cells.getD 0 .top).toInt=v.k:=rfl
theorem cV1 (v:Val):((encV v).cells.getD 1 .top).toInt=v.i:=rfl
theorem cV2 (v:Val):((encV v).cells.getD 2 .top).toStr=v.t:=rfl
theorem lV (v:Val):((encV v).cells.length==3)=true:=rfl
theorem sV (v:Val):xpZ [Sh.int .i64,Sh.int .i64,Sh.str] (encV v).cells 0=true:=rfl
theorem cmp0 (x y:Row):(cmpR x y==0)=decide (x=y):=by
 by_cases h:x=y
 . subst h;simp [xl4]
 . have:cmpR x y≠0:=fun e=>h (xiM e)
   simp [h,this]
theorem cmp1 (x y:Row):(cmpR x y != 0)=!decide (x=y):=by rw [<-cmp0];rfl
def atL (l:List Fc) (t:Int):List Row:=l.flatMap fun f=>if hasP f.p t=true then [f.r] else []
theorem xnH (l:List Fc) (t:Int):(atL l t).length<=l.length:=by
 have:=xfA (g:=fun f:Fc=>if hasP f.p t=true then [f.r] else []) (c:=1) l fun f _=>by split<;>simp
 unfold atL;omega
theorem xnI {l:List Fc} {t:Int} {r:Row} (h:r∈atL l t):∃ f,f∈l/\f.r=r/\hasP f.p t=true:=by
 obtain ⟨f,hf,h⟩:=y3.1 h;split at h
 . rename_i hp;simp only [zv] at h;exact ⟨f,hf,h.symm,hp⟩
 . simp at h
def Few (l:List Fc):Prop:=l.length<=1048576/\∀ f,f∈l->f.r.length<=1048576
theorem Few.at {l:List Fc} (h:Few l) (t:Int):xpB (atL l t):=⟨Nat.le_trans (xnH l t) h.1,fun x hx=>by obtain ⟨f,hf,rfl,_⟩:=xnI hx;exact h.2 f hf⟩
theorem xjT {α:Type} {step:Int->Option (Int⊕(Bool×Bool×Unit))} (l:List α) (p:α->Bool)
  (hs:∀ (k:Nat) (h:k<l.length),step (k:Int)=if p l[k]=true then some (.inl ((k+1:Nat):Int)) else some (.inr (true,false,())))
  (he:step (l.length:Int)=some (.inr (false,false,()))):∀ d k:Nat,k+d=l.length->Iter step (k:Int)=some (if (l.drop k).all p=true then (false,false,()) else (true,false,()))
 | 0,k,h=>by
  have:k=l.length:=by omega
  subst this;rw [zq (zd _),List.all_nil,if_pos rfl];exact xbe he
 | d+1,k,h=>by
  have hk:k<l.length:=by omega
  have:=hs k hk;have e:(l.drop k).all p=(p l[k]&&(l.drop (k+1)).all p):=by rw [xcr hk];rfl
  rw [e];cases hc:p l[k] with
  | true =>
   rw [if_pos hc] at this;rw [xby this,xjT l p hs he d (k+1) (by omega),Bool.true_and]
  | false =>
   rw [if_neg (by rw [hc];simp)] at this
   rw [xbe this];simp
structure Ve where
 id:Int
 sc:Int
 r:Row
 va:Per
 sy:Per
 b:Int
 u:Int
deriving DecidableEq
def encW (v:Ve):AV:=.agg [.int .i64 v.id,.int .i64 v.sc,.list 3 (v.r.map encV),.int .i64 v.va.1,.int .i64 v.va.2,.int .i64 v.sy.1,.int .i64 v.sy.2,.int .i64 v.b,.int .i64 v.u]
theorem cW0 (v:Ve):((encW v).cells.getD 0 .top).toInt=v.id:=rfl
theorem cW1 (v:Ve):((encW v).cells.getD 1 .top).toInt=v.sc:=rfl
theorem cW2 (v:Ve):((encW v).cells.getD 2 .top).toList=v.r.map encV:=rfl
theorem cW3 (v:Ve):((encW v).cells.getD 3 .top).toInt=v.va.1:=rfl
theorem cW4 (v:Ve):((encW v).cells.getD 4 .top).toInt=v.va.2:=rfl
theorem cW5 (v:Ve):((encW v).cells.getD 5 .top).toInt=v.sy.1:=rfl
theorem cW6 (v:Ve):((encW v).cells.getD 6 .top).toInt=v.sy.2:=rfl
theorem cW7 (v:Ve):((encW v).cells.getD 7 .top).toInt=v.b:=rfl
theorem cW8 (v:Ve):((encW v).cells.getD 8 .top).toInt=v.u:=rfl
theorem lW (v:Ve):((encW v).cells.length==9)=true:=rfl
theorem sW (v:Ve):xpZ [Sh.int .i64,Sh.int .i64,Sh.list 3,Sh.int .i64,Sh.int .i64,Sh.int .i64,Sh.int .i64,Sh.int .i64,Sh.int .i64] (encW v).cells 0=true:=rfl
theorem sW0 (v:Ve):xpS (Sh.int .i64) ((encW v).cells.getD 0 .top)=true:=rfl
theorem sW2 (v:Ve):xpS (Sh.list 3) ((encW v).cells.getD 2 .top)=true:=rfl
theorem sW34 (v:Ve):xpZ [Sh.int .i64,Sh.int .i64] (encW v).cells 3=true:=rfl
theorem sW56 (v:Ve):xpZ [Sh.int .i64,Sh.int .i64] (encW v).cells 5=true:=rfl
def Ve.fc (v:Ve):Fc:=⟨v.r,v.va⟩
@[simp] theorem Ve.fc_r (v:Ve):v.fc.r=v.r:=rfl
@[simp] theorem Ve.fc_p (v:Ve):v.fc.p=v.va:=rfl
def xpr:Int:=1099511627776
def Ve.op (v:Ve):Bool:=pv v.sy&&v.sy.2==xpr
theorem xgc (l:List Ve) (hl:l.length<=1599289640401):Iter (xaK (l.map encW)) ((0:Nat),(0:Int),[])=some ((l.flatMap (fun (f:Ve)=>[Ve.fc f])).length,(l.flatMap (fun (f:Ve)=>[Ve.fc f])).map encF):=by
 refine xht l (fun (f:Ve)=>[Ve.fc f]) encF 1 (fun f hf=>?_) (fun n h D hD=>?_) (fun D=>?_)
 . simp
 . have h1:(n:Int)<(l.length:Int):=by omega
   have m1:(D.length+1)*40<=140737488355328:=by omega
   have m2:D.length+1<=4611686018427387904:=by omega
   have gf:(l.map encW).getD n .top=encW l[n]:=xbd _ _ _ h;simp only [xaK,xb7,sBU,h,h1,gf,cW0,cW1,cW2,cW3,cW4,cW5,cW6,cW7,cW8,lW,sW,sW0,sW2,sW34,sW56,m1,m2,xpo (n:=n) (by omega)]
   simp [encF]
 . simp only [xaK,xb7,za,zy,zm,xa7,sUF]
theorem xmD (l:List Ve) (hl:l.length<=1599289640401):xcW (l.map encW)=some ((l.map Ve.fc).map encF):=by
 have e:=xgc l hl;rw [xpJ] at e;unfold xcW xd7;simp only [xdD,xdE,xdF,e,sOO,sUF]
def fewV (l:List Ve):Bool:=decide (l.length<=16)&&l.all fun v=>decide (v.r.length<=60)
theorem xmd {l:List Ve} (h:fewV l=true):l.length<=16/\∀ v,v∈l->v.r.length<=60:=by
 simp only [fewV,zf,zl,zI] at h;exact h
def fewF (n:Nat) (l:List Fc):Bool:=decide (l.length<=n)&&l.all fun f=>decide (f.r.length<=60)
theorem xn9 (l:List Fc) (hl:l.length<=1599289640401) (n:Nat):xex (l.map encF) (n:Int)=some (fewF n l):=by
 have q:Iter (xaD (l.map encF)) (0:Int)=some (if l.all (fun f=>decide (f.r.length<=60))=true then (false,false,()) else (true,false,())):=by
  have:=xjT (step:=xaD (l.map encF)) l (fun f=>decide (f.r.length<=60)) (fun k h=>by
   have h1:(k:Int)<(l.length:Int):=by omega
   have gf:(l.map encF).getD k .top=encF l[k]:=xbd _ _ _ h;simp only [xaD,xcI,sBU,h,h1,gf,cF0,cF1,cF2,sF0,sF1,sF2,lF,sF12,sF02,xpo (n:=k) (by omega)]
   by_cases hc:l[k].r.length<=60
   . have:¬ ((l[k].r.length:Int)>60):=by omega
     simp [hc,this,xa7,sUF]
   . have:(l[k].r.length:Int)>60:=by omega
     simp [hc,this,xbY,sUF]) (by simp only [xaD,xcI,za,zy,zm,xa7,sUF]) l.length 0 (by omega)
  simpa using this
 unfold xex xfb;rw [q];simp only [sBU];by_cases h1:(l.length:Int)>(n:Int)
 . have h2:¬ l.length<=n:=by omega
   simp [h1,h2,xbY,fewF,sUF]
 . have h2:l.length<=n:=by omega
   simp only [h1,zm,xa7,fewF,h2,zn,Bool.true_and,sUF];cases l.all fun f=>decide (f.r.length<=60)<;>simp [xbY,xa7,sUF]
theorem xmY (l:List Ve) (hl:l.length<=1599289640401):xeW (l.map encW)=some (fewV l):=by
 have e:=xn9 (l.map Ve.fc) (by simpa using hl) 16
 have e2:((16:Nat):Int)=(16:Int):=rfl;rw [e2] at e;have e3:fewF 16 (l.map Ve.fc)=fewV l:=by unfold fewF fewV;rw [za,List.all_map];rfl
 unfold xeW xe7;simp only [xmD l hl,zk,zh,xbY,e,e3,sUF]
theorem xpN {n:Nat} (h:n<=1048576):n*32<=140737488355328/\n<=4611686018427387904:=by omega
theorem xpQ (r:Row):List.take r.length (r.map encV)=r.map encV:=zi (by simp)
def xpn (tx:Int) (v:Ve):List Ve:=if decide (v.b>=tx) then [] else if decide (v.u>=tx) then [⟨v.id,v.sc,v.r,v.va,(v.sy.1,xpr),v.b,0⟩] else [v]
theorem xgA (tx:Int) (l:List Ve) (hl:l.length<=1048576):Iter (xaU (l.map encW) tx) ((0:Nat),(0:Int),[])=some ((l.flatMap (fun (f:Ve)=>xpn tx f)).length,(l.flatMap (fun (f:Ve)=>xpn tx f)).map encW):=by
 refine xht l (fun (f:Ve)=>xpn tx f) encW 1 (fun f hf=>?_) (fun n h D hD=>?_) (fun D=>?_)
 . cases q:(decide ((f).b>=tx))<;>cases J:(decide ((f).u>=tx))<;>simp [xpn,xpr,q,J]
 . have h1:(n:Int)<(l.length:Int):=by omega
   have m1:(D.length+1)*88<=140737488355328:=by omega
   have m2:D.length+1<=4611686018427387904:=by omega
   have gf:(l.map encW).getD n .top=encW l[n]:=xbd _ _ _ h;simp only [xaU,xch,sBU,h,h1,gf,cW0,cW1,cW2,cW3,cW4,cW5,cW6,cW7,cW8,lW,sW,sW0,sW2,sW34,sW56,m1,m2,xpo (n:=n) (by omega)]
   cases q:(decide ((l[n]).b>=tx))<;>cases J:(decide ((l[n]).u>=tx))<;>simp [encW,xbY,xa7,encR,xpn,xpr,q,J,sUF]
 . simp only [xaU,xch,za,zy,zm,xa7,sUF]
theorem xnd (l:List Ve) (tx:Int) (hl:l.length<=1048576):xdu (l.map encW) tx=some ((l.flatMap (xpn tx)).map encW):=by
 have e:=xgA tx l hl;unfold xdu xeP;simp only [xea,xeb,xec,e,sOO,sUF]
theorem xgl (tx:Int) (l:List Ve) (hl:l.length<=1048576) (hr:∀ v,v∈l->v.r.length<=1048576):Iter (xaR tx (l.map encW) ((l.length:Nat):Int)) ((0:Nat),(0:Int),[])=some ((l.flatMap (fun (f:Ve)=>xpn tx f)).length,(l.flatMap (fun (f:Ve)=>xpn tx f)).map encW):=by
 refine xht l (fun (f:Ve)=>xpn tx f) encW 1 (fun f hf=>?_) (fun n h D hD=>?_) (fun D=>?_)
 . cases q:(decide ((f).b>=tx))<;>cases J:(decide ((f).u>=tx))<;>simp [xpn,xpr,q,J]
 . have h1:(n:Int)<(l.length:Int):=by omega
   have m1:(D.length+1)*88<=140737488355328:=by omega
   have m2:D.length+1<=4611686018427387904:=by omega
   have gf:(l.map encW).getD n .top=encW l[n]:=xbd _ _ _ h;have hm:=xpN (hr _ (zo h));simp only [xaR,xcg,xbZ,xbx,xaN,sBU,h,h1,gf,cW0,cW1,cW2,cW3,cW4,cW5,cW6,cW7,cW8,lW,sW,sW0,sW2,sW34,sW56,hm.1,hm.2,zU,zr,xpQ,zd,m1,m2,xpo (n:=n) (by omega)]
   cases q:(decide ((l[n]).b>=tx))<;>cases J:(decide ((l[n]).u>=tx))<;>simp [encW,xbY,xa7,encR,xpn,xpr,q,J,sUF]
 . simp only [xaR,xcg,xbZ,xbx,xaN,za,zy,zm,xa7,sUF]
theorem xm8 (l:List Ve) (tx:Int) (hl:l.length<=1048576) (hr:∀ v,v∈l->v.r.length<=1048576):xdk (l.map encW) tx=some ((l.flatMap (xpn tx)).map encW):=by
 have e:=xgl tx l hl hr;unfold xdk xev;simp only [xd1,xd2,xd3,e,sOO,sUF]
def outR {σ ρ:Type}:Option ρ->σ->Option (σ⊕ρ)
 | some x,_=>some (.inr x)
 | none,s=>some (.inl s)
theorem xgR {σ ρ:Type} (c:Bool) (a b:Option ρ) (s:σ):outR (br c a b) s=br c (outR a s) (outR b s):=by cases c<;>rfl
theorem xdW {σ ρ:Type} (x:ρ) (s:σ):outR (some x) s=some (.inr x):=rfl
theorem xdV {σ ρ:Type} (s:σ):outR (none:Option ρ) s=some (.inl s):=rfl
theorem xmo {α β:Type} (f:α->β) (c:Bool) (a b:Option α):(br c a b).map f=br c (a.map f) (b.map f):=by cases c<;>rfl
theorem xo7 {T:Type} (p q:Bool) (x y:T):br (p || q) x y=br p x (br q x y):=by cases p<;>rfl
theorem xl0 {T:Type} (p q:Bool) (x y:T):br (p&&q) x y=br p (br q x y) y:=by cases p<;>rfl
theorem xc5 {σ ρ α:Type} {step:σ->Option (σ⊕ρ)} (L:List α) (st:Nat->σ) (e:α->Option ρ) (r0:ρ)
  (hs:∀ (k:Nat) (h:k<L.length),step (st k)=outR (e L[k]) (st (k+1))) (he:step (st L.length)=some (.inr r0)):∀ d k:Nat,k+d=L.length->Iter step (st k)=some (((L.drop k).findSome? e).getD r0)
 | 0,k,h=>by
  have:k=L.length:=by omega
  subst this;rw [zq (zd _)];exact xbe he
 | d+1,k,h=>by
  have hk:k<L.length:=by omega
  have:=hs k hk;rw [xcr hk,List.findSome?_cons];cases hc:e L[k] with
  | some x=>rw [hc,xdW] at this;rw [xbe this];rfl
  | none=>rw [hc,xdV] at this;rw [xby this];exact xc5 L st e r0 hs he d (k+1) (by omega)
theorem xey {α ρ:Type} (p:α->Bool) (x:ρ):∀ L:List α,L.findSome? (fun a=>br (p a) (some x) none)=br (L.any p) (some x) none
 | []=>rfl
 | a::L=>by
  rw [List.findSome?_cons,List.any_cons];cases p a with
  | true=>rfl
  | false=>exact xey p x L
theorem xjO {α ρ τ:Type} (g:ρ->τ) (e:α->Option ρ):∀ L:List α,L.findSome? (fun a=>(e a).map g)=(L.findSome? e).map g
 | []=>rfl
 | a::L=>by
  rw [List.findSome?_cons,List.findSome?_cons];cases e a with
  | some x=>rfl
  | none=>exact xjO g e L
theorem xpR {n:Nat} (h:n<=4611686018427387904):IntKind.i64.wrap (((n+1:Nat):Int) - 1)=(n:Int):=by
 rw [xeR (by omega) (by omega)];omega
instance:Inhabited Ve:=⟨⟨0,0,[],(0,0),(0,0),0,0⟩⟩
def bad1 (v:Ve):Bool:=decide (v.id<1) || (decide (v.b<1) || (decide (v.sc<0) || (decide (v.u<0) || (!pv v.va || (!pv v.sy || (v.u != 0&&(decide (v.u<=v.b) || v.sy.2==xpr)))))))
theorem xhg (v:Ve):xcY v.id v.sc (v.r.map encV) v.va.1 v.va.2 v.sy.1 v.sy.2 v.b v.u=bad1 v:=by
 unfold xcY bad1 xpr;rw [xe2,xe2];cases decide (v.id<1)<;>cases decide (v.b<1)<;>cases decide (v.sc<0)<;>cases decide (v.u<0)<;>cases pv v.va<;>cases pv v.sy<;>cases v.u != 0<;>cases decide (v.u<=v.b)<;>rfl
def xpF (a b:Ve):Bool:=br (a.id != b.id) (decide (a.id<b.id)) (br (a.sy.1 != b.sy.1) (decide (a.sy.1<b.sy.1)) (decide (a.va.1<b.va.1)))
theorem xmw (a b:Ve):xfc a.id a.sc (a.r.map encV) a.va.1 a.va.2 a.sy.1 a.sy.2 a.b a.u b.id b.sc (b.r.map encV) b.va.1 b.va.2 b.sy.1 b.sy.2 b.b b.u=xpF a b:=rfl
def xpI (a b:Ve):Bool:=decide (a.b>b.b) || (a.id==b.id&&(a.sc != b.sc || (a.b != b.b || (a.u != b.u || !decide (a.r=b.r)))))
def lapP (p q:Per):Bool:=pv p&&(pv q&&(decide (p.1<q.2)&&decide (q.1<p.2)))
theorem xnb (p q:Per):xbS p.1 p.2 q.1 q.2=lapP p q:=by
 unfold xbS lapP;rw [xe2,xe2];cases pv p<;>cases pv q<;>cases decide (p.1<q.2)<;>rfl
theorem gW {l:List Ve} {k:Nat} (h:k<l.length):(l.map encW).getD k .top=encW (l.getD k default):=by
 rw [xbd _ _ _ h,z7,ze h,zh]
def err1 (l:List Ve):Nat->Option Int
 | 0=>br (bad1 (l.getD 0 default)) (some 8) none
 | k+1=>br (bad1 (l.getD (k+1) default)) (some 8) (br (!xpF (l.getD k default) (l.getD (k+1) default)) (some 9) (br (xpI (l.getD k default) (l.getD (k+1) default)) (some 24) none))
theorem xmh {l:List Ve} {k:Nat} (h:k<l.length):l.getD k default∈l:=by
 rw [z7,ze h,zh];exact zo h
theorem z0:(((0:Nat):Int)==0)=true:=rfl
theorem z1 (k:Nat):(((k+1:Nat):Int)==0)=false:=by simp;omega
theorem nn (x y:Row):(cmpR x y != 0)=!decide (x=y):=cmp1 x y
theorem xgX (l:List Ve) (hl:l.length<=1048576) (hr:∀ v,v∈l->v.r.length<=maxLen):Iter (xan (l.map encW)) (0:Int)=some ((((List.range l.length).findSome? (err1 l)).map fun x=>(true,x,())).getD (false,0,())):=by
 have:=xc5 (step:=xan (l.map encW)) (List.range l.length) (fun k=>((k:Nat):Int)) (fun k=>(err1 l k).map fun x=>(true,x,())) (false,0,()) (fun k h=>by
  rw [List.getElem_range];rw [List.length_range] at h;cases k with
  | zero =>
   have h1:((0:Nat):Int)<(l.length:Int):=by omega
   simp only [xan,xbq,xaa,xbL,sBU,h,h1,gW h,cW0,cW1,cW2,cW3,cW4,cW5,cW6,cW7,cW8,lW,sW,sW0,sW2,sW34,sW56,xhg,z0,err1,xmo,xgR,Option.map_some,Option.map_none,xdW,xdV,xpo (n:=0) (by omega)]
  | succ k =>
   have h0:k<l.length:=by omega
   have h1:((k+1:Nat):Int)<(l.length:Int):=by omega
   have h2:(k:Int)<(l.length:Int):=by omega
   have hm:=xkY (l.getD k default).r (l.getD (k+1) default).r (hr _ (xmh h0));simp only [xan,xbq,xaa,xbL,xpR (n:=k) (by omega),sBU,h,h0,h1,h2,gW h,gW h0,cW0,cW1,cW2,cW3,cW4,cW5,cW6,cW7,cW8,lW,sW,sW0,sW2,sW34,sW56,xhg,xmw,hm,nn,z1,err1,xmo,xgR,Option.map_some,Option.map_none,xdW,xdV,xpo (n:=k+1) (by omega),xpI,xo7,xl0]) (by
   simp only [List.length_range,xan,xbq,za,zy,zm,xa7,sUF]) l.length 0 (by simp)
 rw [<-xjO];simpa using this
def xpp (v x:Ve):Bool:=v.id==x.id&&(lapP v.va x.va&&lapP v.sy x.sy)
theorem xjh {l:List Ve} {i k:Nat} (h:k<(l.take i).length):(l.take i)[k]=l.getD k default:=by
 rw [zt] at h;rw [List.getElem_take,z7,ze (by omega),zh]
theorem xgZ (l:List Ve) (hl:l.length<=1048576) {i:Nat} (hi:i<l.length):Iter (xav (l.map encW) ((i:Nat):Int)) (0:Int)=some (br ((l.take i).any (xpp (l.getD i default))) (true,24,()) (false,0,())):=by
 have q:(l.take i).length=i:=by rw [zt];omega
 have:=xc5 (step:=xav (l.map encW) ((i:Nat):Int)) (l.take i) (fun k=>((k:Nat):Int)) (fun x=>br (xpp (l.getD i default) x) (some (true,24,())) none) (false,0,()) (fun k h=>by
  rw [xjh h];rw [q] at h;have hk:k<l.length:=by omega
  have h1:(i:Int)<(l.length:Int):=by omega
  have h2:(k:Int)<(l.length:Int):=by omega
  have h3:(k:Int)<(i:Int):=by omega
  simp only [xav,xca,xbN,xbO,sBU,h,hi,hk,h1,h2,h3,gW hi,gW hk,cW0,cW1,cW2,cW3,cW4,cW5,cW6,cW7,cW8,lW,sW,sW0,sW2,sW34,sW56,xnb,xpp,xgR,xdW,xdV,xl0,xpo (n:=k) (by omega)]) (by
  simp only [q,xav,xca,zy,zm,xa7,sUF]) (l.take i).length 0 (by simp)
 rw [zr,xey] at this;have e:((0:Nat):Int)=0:=rfl;rw [e] at this;rw [this];cases (l.take i).any (xpp (l.getD i default))<;>rfl
theorem xgY (l:List Ve) (hl:l.length<=1048576):Iter (xau (l.map encW)) (0:Int)=some (br ((List.range l.length).any fun i=>(l.take i).any (xpp (l.getD i default))) (true,24,()) (false,0,())):=by
 have:=xc5 (step:=xau (l.map encW)) (List.range l.length) (fun k=>((k:Nat):Int)) (fun i=>br ((l.take i).any (xpp (l.getD i default))) (some (true,24,())) none) (false,0,()) (fun k h=>by
  rw [List.getElem_range];rw [List.length_range] at h;have h1:(k:Int)<(l.length:Int):=by omega
  have e:=xgZ l hl h;simp only [xau,xb9,sBU,h1,e,xpo (n:=k) (by omega)]
  cases (l.take k).any (xpp (l.getD k default))<;>rfl) (by
  simp only [List.length_range,xau,xb9,za,zy,zm,xa7,sUF]) l.length 0 (by simp)
 rw [zr,xey] at this;have e:((0:Nat):Int)=0:=rfl;rw [e] at this;rw [this];cases (List.range l.length).any fun i=>(l.take i).any (xpp (l.getD i default))<;>rfl
def xpG (l:List Ve):Int:=((List.range l.length).findSome? (err1 l)).getD (br ((List.range l.length).any fun i=>(l.take i).any (xpp (l.getD i default))) 24 0)
theorem xmz (l:List Ve) (hl:l.length<=1048576) (hr:∀ v,v∈l->v.r.length<=maxLen):xdP (l.map encW)=some (xpG l):=by
 unfold xdP xd9 xpG;rw [xgX l hl hr,xgY l hl];cases (List.range l.length).findSome? (err1 l) with
 | some x=>rfl
 | none=>cases (List.range l.length).any fun i=>(l.take i).any (xpp (l.getD i default))<;>rfl
def xpK (st:List Per):List Int:=st.flatMap fun s=>List.replicate s.2.toNat s.1
def StOk (st:List Per):Prop:=∀ s,s∈st->1<=s.2
theorem StOk.len {st:List Per} (h:StOk st):st.length<=(xpK st).length:=by
 unfold xpK;induction st with
 | nil=>simp
 | cons s st ih =>
  have h1:=h s (by simp)
  have:=ih fun s hs=>h s (by simp [hs])
  rw [zR,z8,zF,List.length_replicate];omega
def setF (s:List Int×List Per) (q:Int×Nat):List Int×List Per:=(s.1.take q.2++List.replicate (q.2 - s.1.length) q.1,s.2++((s.1.drop q.2).reverse.map fun f=>(f,q.1)))
theorem xg2 {α β:Type} (A B:α->List β):∀ l:List α,(l.flatMap fun k=>A k++B k).Perm (l.flatMap A++l.flatMap B)
 | []=>List.Perm.refl _
 | a::l=>by
  rw [zR,zR,zR];have ih:=xg2 A B l;refine (ih.append_left (A a++B a)).trans ?_;rw [zw,zw];refine List.Perm.append_left _ ?_;rw [<-zw,<-zw];exact List.Perm.append_right _ List.perm_append_comm
theorem xia {β:Type} (g:Int->β):∀ (F:List Int) (H n:Nat),F.length<=H->(List.range H).flatMap (fun k=>if n<=k then (F[k]?).toList.map g else [])=(F.drop n).map g
 | [],H,n,_=>by
  rw [List.drop_nil,zW,List.flatMap_eq_nil_iff];intro k _;split<;>simp
 | x::F,0,n,h=>by simp at h
 | x::F,H+1,n,h=>by
  rw [List.range_succ_eq_map,zR,List.flatMap_map];have ih:=xia g F H (n - 1) (by simpa using h)
  have e:(List.range H).flatMap (fun a=>if n<=a.succ then (((x::F)[a.succ]?).toList).map g else [])=(F.drop (n - 1)).map g:=by
   rw [<-ih];congr 1;funext a;have:(n<=a.succ)=(n - 1<=a):=by rw [eq_iff_iff];omega
   simp only [this,zZ,Nat.succ_eq_add_one]
  rw [e];cases n with
  | zero=>simp
  | succ n=>simp
structure LvI (N:Int->Nat) (H:Nat) (at':Int) (F:List Int) (out:List Per) (A:Nat->List Per):Prop where
 perm:out.Perm ((List.range H).flatMap A)
 span:∀ k,IsSpan (A k)
 low:∀ k (h:k<F.length),F[k]<=at'/\0<=F[k]/\∀ p,p∈A k->p.2<F[k]
 high:∀ k,F.length<=k->∀ p,p∈A k->p.2<=at'
 cov:∀ k t,t<=at'->((inL (A k) t=true\/∃ h:k<F.length,F[k]<=t)↔k<N t)
 len:F.length=N at'
 top:F.length<=H
theorem LvI.set {N:Int->Nat} {H:Nat} {a b:Int} {F:List Int} {out:List Per} {A:Nat->List Per} (h:LvI N H a F out A) (ad:a<b) (h0:0<=b) (hb:b<=1099511627776) (hc:∀ t,a<=t->t<b->N t=N a) (hH:N b<=H) :
  ∃ A',LvI N H b (setF (F,out) (b,N b)).1 (setF (F,out) (b,N b)).2 A':=by
 have hl:=h.len;refine ⟨fun k=>A k++(if N b<=k then (F[k]?).toList.map (fun f=>(f,b)) else []),?_,?_,?_,?_,?_,?_,?_⟩
 . refine (List.Perm.append h.perm ?_).trans (xg2 A _ _).symm;rw [xia (fun f=>(f,b)) F H (N b) h.top]
   exact (List.reverse_perm _).map _
 . intro k;by_cases hk:N b<=k
   . rw [if_pos hk];by_cases J:k<F.length
     . obtain ⟨l1,l2,l3⟩:=h.low k J;rw [ze J];refine ⟨fun p hp=>?_,List.pairwise_append.2 ⟨(h.span k).2,by simp,fun p hp q hq=>?_⟩⟩
       . rcases zG.1 hp with hp|hp
         . exact (h.span k).1 p hp
         . simp at hp;subst hp;exact xbp.2 ⟨l2,by dsimp only;omega,hb⟩
       . simp at hq;subst hq;exact l3 p hp
     . rw [zz (by omega)];simpa using h.span k
   . rw [if_neg hk,zD];exact h.span k
 . intro k hk;simp only [setF] at hk |-;rw [z8,zt,List.length_replicate] at hk;have O:¬ N b<=k:=by omega
   simp only [O,if_false,zD];by_cases J:k<F.length
   . rw [List.getElem_append_left (by rw [zt];omega),List.getElem_take]
     obtain ⟨l1,l2,l3⟩:=h.low k J;exact ⟨by omega,l2,l3⟩
   . rw [List.getElem_append_right (by rw [zt];omega),List.getElem_replicate]
     exact ⟨Int.le_refl _,h0,fun p hp=>by have:=h.high k (by omega) p hp;omega⟩
 . intro k hk p hp;simp only [setF] at hk;rw [z8,zt,List.length_replicate] at hk;have O:N b<=k:=by omega
   simp only [O,if_true] at hp;by_cases J:k<F.length
   . rw [ze J] at hp;rcases zG.1 hp with hp|hp
     . obtain ⟨l1,l2,l3⟩:=h.low k J;have:=l3 p hp;omega
     . simp at hp;subst hp;exact Int.le_refl _
   . rw [zz (by omega)] at hp
     simp at hp;have:=h.high k (by omega) p hp;omega
 . intro k t ht;have U:(setF (F,out) (b,N b)).1=F.take (N b)++List.replicate (N b - F.length) b:=rfl;have key:(∃ hh:k<(setF (F,out) (b,N b)).1.length,(setF (F,out) (b,N b)).1[k]<=t)↔(k<N b/\((∃ hh:k<F.length,F[k]<=t)\/(F.length<=k/\b<=t))):=by
    constructor
    . rintro ⟨hh,Q⟩;have hh':=hh;rw [U,z8,zt,List.length_replicate] at hh';refine ⟨by omega,?_⟩
      by_cases J:k<F.length
      . refine .inl ⟨J,?_⟩;have e:(setF (F,out) (b,N b)).1[k]=F[k]:=by
         simp only [U];rw [List.getElem_append_left (by rw [zt];omega),List.getElem_take]
        rw [<-e];exact Q
      . refine .inr ⟨by omega,?_⟩
        have e:(setF (F,out) (b,N b)).1[k]=b:=by
         simp only [U];rw [List.getElem_append_right (by rw [zt];omega),List.getElem_replicate]
        rw [<-e];exact Q
    . rintro ⟨h1,h2⟩;have hh:k<(setF (F,out) (b,N b)).1.length:=by rw [U,z8,zt,List.length_replicate];omega
      refine ⟨hh,?_⟩;rcases h2 with ⟨J,Q⟩|⟨J,Q⟩
      . have e:(setF (F,out) (b,N b)).1[k]=F[k]:=by
         simp only [U];rw [List.getElem_append_left (by rw [zt];omega),List.getElem_take]
        rw [e];exact Q
      . have e:(setF (F,out) (b,N b)).1[k]=b:=by
         simp only [U];rw [List.getElem_append_right (by rw [zt];omega),List.getElem_replicate]
        rw [e];exact Q
   rw [key];have Z:inL (A k++(if N b<=k then (F[k]?).toList.map (fun f=>(f,b)) else [])) t=true↔inL (A k) t=true\/(N b<=k/\(∃ hh:k<F.length,F[k]<=t)/\t<b):=by
    rw [xdn,Bool.or_eq_true];refine or_congr Iff.rfl ?_;by_cases O:N b<=k
    . rw [if_pos O];by_cases J:k<F.length
      . obtain ⟨l1,l2,l3⟩:=h.low k J;rw [ze J];have e:inL ((some F[k]).toList.map fun f=>(f,b)) t=hasP (F[k],b) t:=by simp [inL]
        rw [e,xbm,xbp];dsimp only;constructor
        . rintro ⟨_,h2,h3⟩;exact ⟨O,⟨J,h2⟩,h3⟩
        . rintro ⟨_,⟨_,h2⟩,h3⟩;exact ⟨⟨l2,by omega,hb⟩,h2,h3⟩
      . rw [zz (by omega)]
        simp only [Option.toList_none,zW,xfl,zT,false_iff];rintro ⟨_,⟨hh,_⟩,_⟩;omega
    . rw [if_neg O,xfl];simp only [zT,false_iff];rintro ⟨hh,_⟩;omega
   rw [Z];by_cases ab:t<=a
   . have aa:=h.cov k t ab;rw [<-aa];constructor
     . rintro ((h1|⟨_,h2,_⟩)|⟨_,h2|⟨_,h3⟩⟩)
       . exact .inl h1
       . exact .inr h2
       . exact .inr h2
       . omega
     . rintro (h1|h2)
       . exact .inl (.inl h1)
       . by_cases O:N b<=k
         . exact .inl (.inr ⟨O,h2,by omega⟩)
         . exact .inr ⟨by omega,.inl h2⟩
   . have Y:inL (A k) t=true->False:=fun hi=>by
      obtain ⟨p,hp,_,p1,p2⟩:=xbj.1 hi;by_cases J:k<F.length
      . obtain ⟨l1,l2,l3⟩:=h.low k J;have:=l3 p hp;omega
      . have:=h.high k (by omega) p hp;omega
     have ac:(∃ hh:k<F.length,F[k]<=t)↔k<F.length:=⟨fun ⟨hh,_⟩=>hh,fun hh=>⟨hh,by have:=(h.low k hh).1;omega⟩⟩
     rw [ac];by_cases V:t<b
     . rw [hc t (by omega) V,<-hl]
       constructor
       . rintro ((h1|⟨_,h2,_⟩)|⟨_,h2|⟨_,h3⟩⟩)
         . exact (Y h1).elim
         . exact h2
         . exact h2
         . omega
       . intro J;by_cases O:N b<=k
         . exact .inl (.inr ⟨O,J,V⟩)
         . exact .inr ⟨by omega,.inl J⟩
     . obtain rfl:t=b:=by omega
       constructor
       . rintro ((h1|⟨_,_,h2⟩)|⟨h1,_⟩)
         . exact (Y h1).elim
         . omega
         . exact h1
       . intro hk;refine .inr ⟨hk,?_⟩;by_cases J:k<F.length
         . exact .inl J
         . exact .inr ⟨by omega,Int.le_refl _⟩
 . show (F.take (N b)++List.replicate (N b - F.length) b).length=N b;rw [z8,zt,List.length_replicate];omega
 . show (F.take (N b)++List.replicate (N b - F.length) b).length<=H;rw [z8,zt,List.length_replicate];omega
end Go.Sim.M
end
