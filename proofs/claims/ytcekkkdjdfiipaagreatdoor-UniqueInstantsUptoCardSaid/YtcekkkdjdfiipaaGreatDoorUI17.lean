/- Part 17 of the proof of the law. -/
import Derived.Test.YtcekkkdjdfiipaaGreatDoorUI16
import Derived.Test.YtcekkkdjdfiipaaGreatDoorCards
import Derived.Test.YtcekkkdjdfiipaaGreatDoorTie
import Derived.ChangeMaps5
import Derived.Deep.DeepHandedRow
import Derived.Stop.LaidErr
import Derived.Deep.DeepLaidRun
set_option linter.unusedVariables false
set_option linter.unusedSimpArgs false
set_option linter.unusedSectionVars false
noncomputable section
set_option maxRecDepth 10000
namespace Go.Sim
open Go.RowKit Go.Proofs Go.ChangeShapes Go.WideShapes Go.ChangeAt
theorem xy8 {P:Program} {w:World} (h:w.ShapedOpen P) (hg:P.globals.size<P.low):P.low<=w.heap.size:=by
 obtain ⟨o,o₀,h1,_,_⟩:=h.2 (P.low - 1) (by omega) (by unfold Program.low at hg |-;omega)
 rcases zI (P.low - 1) w.heap.size with h'|h'
 . omega
 . rw [Array.getElem?_eq_none h'] at h1;simp at h1
def xKx:DataW Unit->List Value
 | .lit (.int k n)=>[.int k n]
 | .agg l=>l.flatMap fun d=>match d with
  | .lit (.int k n)=>[.int k n]
  | .agg l'=>l'.flatMap fun d'=>match d' with
   | .lit (.int k n)=>[.int k n]
   | _=>[]
  | _=>[]
 | _=>[]
def xKY (P:Program):List (String×DataW Unit)->Array Obj->Array Obj
 | [],h=>h
 | x::r,h=>xKY P r (match P.globalNamed x.1 with
  | some g=>h.modify g fun o=>match o with
   | .cells _ t frozen=>.cells (xKx x.2).toArray t frozen
   | o=>o
  | none=>h)
def xKO (P:Program) (q:List (String×DataW Unit)) (os:Os):World :=
 { World.holding P os ⟨#[],#[],[]⟩ with heap:=xKY P q (World.holding P os ⟨#[],#[],[]⟩).heap }
theorem xEU {H:Type} {enc:TypeId×Value->H} {P:Program} {f:Func} {s:ChangeSpec} {W W':World} {args:Array Value} {ds:List (DataW H)} {q:List MemPlace} {tb:TypeId} (hs:s.vars=[])
  (hW:DataW.Whole enc P f.params.toList s.vars false W args.toList ds [] q) (J:(s.fn H ds).results=[.lit (.bool true)]/\(s.fn H ds).args=ds/\(s.fn H ds).vars=[]) (U:f.resultTypes=#[tb]) (Q:P.underlying tb=some .bool)
  (O:DataW.TrodAll enc P W' 0 (fun b=>decide (b<W.heap.size)) true f.params.toList args.toList ds q) (hb:Below W.heap.size W W'):s.post enc P f false true false false W args (.bool true) W':=by
 refine ⟨ds,[],q,[],q,[],hW,?_,?_,?_,hb.frame _,fun h=>by simp at h⟩
 . simp only [zC,J.1,U];exact trodAll_cons_mk (shut_bool Q _) trodAll_mk0
 . simpa [J.2.1] using O
 . simp only [zC,J.2.2,hs];rfl
theorem xsG {H:Type} {enc:TypeId×Value->H} {P:Program} {W W':World} (hl:laidOutB P=true) (hb:Below W.heap.size W W'):∀ {ts:List TypeId} {vs:List Value} {ds:List (DataW H)} {ps:List MemPlace},(ts.all fun t=>P.readableRec t&&decide (t<P.types.size))=true ->
  DataW.TrodAll enc P W 0 (fun _=>true) true ts vs ds ps->DataW.TrodAll enc P W' 0 (fun b=>decide (b<W.heap.size)) true ts vs ds ps
 | [],vs,ds,ps,_,h=>by
  obtain ⟨rfl,rfl,rfl⟩:=trodAll_nil h;exact trodAll_mk0
 | t::ts,vs,ds,ps,ht,h=>by
  have J:=h.lt;obtain ⟨v,O,d,Q,p,q,rfl,rfl,rfl,hd,hr⟩:=trodAll_cons h;simp only [List.all_cons,ze,zk] at ht;exact trodAll_cons_mk (Below.trod hl ht.1.1 ht.1.2 hd hb fun x hx=>J x (by simp [hx])) (xsG hl hb ht.2 hr)
section
variable {H : Type} {enc : TypeId × Value -> H} {P : Program} {w : World} {base b n : Nat} {sp : Nat -> Bool} {held : Bool} {v : Value} {d : DataW H} {ps : List MemPlace} {t mu : TypeId} {R : List Ty}
def xKP (P:Program) (mu:TypeId) (R:List Ty):Prop:=(∃ N0,flat P mu N0 mu=some R)/\R.length=P.cellsOf mu/\0<R.length
theorem xvO (hm:xKP P mu R) {Ts:List Ty} (hf:flat P mu n t=some Ts) {fuel:Nat} {cs:List Value} {x:DataW H×List MemPlace} (hd:DataW.trod enc P w b sp held fuel t cs=some x):∃ xs,Opens R w Ts cs xs/\∀ μ:DataW H->Nat,Meas μ->AV.wts xs<=μ x.1:=by
 obtain ⟨⟨N0,h1⟩,h2,h3⟩:=hm;exact xqL h1 h2 h3 (SizeOf.sizeOf x.1+1) n t Ts hf fuel cs x (Nat.lt_succ_self _) hd
theorem xyz (hm:xKP P mu R) {T:Ty} (hf:flat P mu n t=some [T]) (hv:v.cells=#[v]) (hd:DataW.Trod enc P w b sp held t v d ps):∃ a,Rel w (fun _=>False) xLz v a/\OfTy R T a/\∀ μ:DataW H->Nat,Meas μ->a.wt<=μ d:=by
 obtain ⟨fuel,q⟩:=hd;rw [hv] at q;obtain ⟨ra,ha,hw⟩:=xvO hm hf q;cases ha with
 | cons h ht r=>cases r with
  | nil=>exact ⟨_,h,ht,fun μ hμ=>by simpa [AV.wts] using hw μ hμ⟩
theorem xGb (hm:xKP P mu R) {e:TypeId} {es:List Ty} (ht:P.underlying t=some (.slice e)) (hf:flat P mu n t=some [.slice es]) (q:Value.okWide P w .any base t v) (hd:DataW.Trod enc P w b sp held t v d ps):∃ a,Rel w (fun _=>False) xLz v a/\OfTy R (.slice es) a/\∀ μ:DataW H->Nat,Meas μ->a.wt<=μ d:=by
 obtain ⟨x,len,cap,rfl⟩:=okWide_slice ht q;exact xyz hm hf rfl hd
theorem xHA (hm:xKP P mu R) {k:IntKind} (ht:P.underlying t=some (.int k)) (q:Value.okWide P w .any base t v) (hd:DataW.Trod enc P w b sp held t v d ps):∃ m,Rel w (fun _=>False) xLz v (.int k m)/\(Lit.int k m).wf=true/\∀ μ:DataW H->Nat,Meas μ->(AV.int k m).wt<=μ d:=by
 obtain ⟨m,rfl⟩:=okWide_int ht q;obtain ⟨a,h,hT,hB⟩:=xyz hm (n:=1) (T:=.int k) (by simp [flat,ht]) rfl hd
 cases hT with
 | int _ m' hw =>
  obtain rfl:m'=m:=by cases h;rfl
  exact ⟨m',h,hw,hB⟩
theorem xlI {R:List Ty} {α:Type} {e:α->AV} {wf:α->Prop} {es:List Ty} (hv:∀ x:AV,x.cells.length=es.length->x=xLV x.cells->(∀ j,j<es.length->OfTy R (es.getD j .bool) (x.cells.getD j .top))->∃ a,x=e a/\wf a) {x:AV} (h:OfTy R (.slice es) x) :
  ∃ l:List α,x=.list es.length (l.map e)/\l.length<=maxLen/\∀ a,a∈l->wf a:=by
 cases h with
 | slice _ xs hn hl hx =>
  have:∀ xs:List AV,(∀ x,x∈xs->∃ a,x=e a/\wf a)->∃ l:List α,xs=l.map e/\∀ a,a∈l->wf a:=by
   intro xs;induction xs with
   | nil=>exact fun _=>⟨[],rfl,fun a h=>by simp at h⟩
   | cons x xs ih =>
    intro h;obtain ⟨a,rfl,ha⟩:=h x (by simp)
    obtain ⟨l,rfl,hl⟩:=ih fun y hy=>h y (by simp [hy])
    exact ⟨a::l,rfl,fun b hb=>(zB.1 hb).elim (fun he=>he▸ha) (fun hb=>hl b hb)⟩
  obtain ⟨l,rfl,hw⟩:=this xs fun x q=>hv x (hl x q).1 (hl x q).2 (fun j hj=>hx x j q hj)
  exact ⟨l,rfl,by simpa using hn,hw⟩
end
end Go.Sim
namespace Go.Sim
open Go.RowKit Go.Proofs Go.ChangeShapes Go.WideShapes Go.ChangeAt Go.Proofs.YtcekkkdjdfiipaaGreatDoor
theorem xK6:laidOutB Tryz.prog=true:=by kernel_rfl
theorem xLa:ownKnob Tryz.prog.godebug=none:=by kernel_rfl
theorem xK9:Tryz.prog.globals.size<Tryz.prog.low:=of_decide_eq_true (by kernel_rfl)
noncomputable def xKR:Nat:=(Tryz.prog.globalNamed "internal/strconv.uint64pow10").getD 0
theorem xEV:Rows.laid_internal_strconv_uint64pow10=(Lib.tabData .u64 Lib.pow10Tab:DataW Unit):=by kernel_rfl
theorem xJa {W:World} {r:List (String×DataW Unit)} {a b:String×DataW Unit} (hl:r=[a,b,("internal/strconv.uint64pow10",Rows.laid_internal_strconv_uint64pow10)]) (hp:(r.all fun x=>x.2.handleName?.isNone)=true) (hL:laidMetH Tryz.prog r W) (q:W.ShapedOpen Tryz.prog):xL2 W:=by
 rw [MakeChecks.laidMetH_plain _ _ _ hp] at hL;subst hl;refine ⟨q,xy8 q xK9,?_⟩;have h:=hL.tail.tail;rw [xEV] at h;exact Lib.tabIs_of_head (g:=xKR) (t:=(Tryz.prog.globals[xKR]?).map (·.type) |>.getD 0) (e:=184) (n:=20) (by kernel_rfl) (by kernel_rfl) (by kernel_rfl) (by kernel_rfl) (by kernel_rfl) (by kernel_rfl) h
def muT:TypeId:=153
def tyR:List Ty:=[.int .i64,.int .i64,.int .i64,.int .i64,.str,.str,.mu]
theorem xLc:flat Tryz.prog muT 9 muT=some tyR:=by kernel_rfl
theorem recR:xKP Tryz.prog muT tyR:=⟨⟨9,xLc⟩,by kernel_rfl,by decide⟩
def tyV:List Ty:=[.int .i64,.int .i64,.str]
def tyF:List Ty:=[.slice tyV,.int .i64,.int .i64]
theorem xCO:flat Tryz.prog muT 9 28=some [.slice tyF]:=by kernel_rfl
def I64 (n:Int):Prop:=(Lit.int .i64 n).wf=true
def M.Fc.wf (x:M.Fc):Prop:=M.Row.wf x.r/\I64 x.p.1/\I64 x.p.2
theorem xGG (x:AV) (hl:x.cells.length=tyV.length) (he:x=xLV x.cells) (hx:∀ j,j<tyV.length->OfTy tyR (tyV.getD j .bool) (x.cells.getD j .top)):∃ a,x=M.encV a/\M.Val.wf a:=by
 generalize x.cells=cs at *;match cs,hl with
 | [c0,c1,c2],_ =>
  have h0:=hx 0 (by decide)
  have h1:=hx 1 (by decide)
  have h2:=hx 2 (by decide)
  change OfTy tyR (.int .i64) c0 at h0;change OfTy tyR (.int .i64) c1 at h1;change OfTy tyR .str c2 at h2;cases h0 with
  | int _ k hk=>cases h1 with
   | int _ i hi=>cases h2 with
    | str t ht=>exact ⟨⟨k,i,t⟩,he,hk,hi,ht⟩
theorem xGF {x:AV} (h:OfTy tyR (.slice tyV) x):∃ l:M.Row,x=M.encR l/\M.Row.wf l:=by
 obtain ⟨l,rfl,h1,h2⟩:=xlI xGG h;exact ⟨l,rfl,h1,h2⟩
theorem xGE (x:AV) (hl:x.cells.length=tyF.length) (he:x=xLV x.cells) (hx:∀ j,j<tyF.length->OfTy tyR (tyF.getD j .bool) (x.cells.getD j .top)):∃ a,x=M.encF a/\M.Fc.wf a:=by
 generalize x.cells=cs at *;match cs,hl with
 | [c0,c1,c2],_ =>
  have h0:=hx 0 (by decide)
  have h1:=hx 1 (by decide)
  have h2:=hx 2 (by decide)
  change OfTy tyR (.slice tyV) c0 at h0;change OfTy tyR (.int .i64) c1 at h1;change OfTy tyR (.int .i64) c2 at h2;obtain ⟨l,rfl,hw⟩:=xGF h0;cases h1 with
  | int _ k hk=>cases h2 with
   | int _ i hi=>exact ⟨⟨l,(k,i)⟩,he,hw,hk,hi⟩
section
variable {H : Type} {enc : TypeId × Value -> H} {w : World} {base b : Nat} {sp : Nat -> Bool} {held : Bool} {v : Value} {d : DataW H} {ps : List MemPlace}
theorem xER {P:Program} {t:TypeId} {n:Nat} {Ts:List Ty} {fs:Array Field} {mu:TypeId} {R:List Ty} (hm:xKP P mu R) (ht:P.underlying t=some (.struct fs)) (hf:flat P mu n t=some Ts) (q:Value.okWide P w .any base t v) (hd:DataW.Trod enc P w b sp held t v d ps) :
  ∃ cs:List AV,Rel w (fun _=>False) xLz v (.agg cs)/\cs.length=Ts.length/\(∀ j,j<Ts.length->OfTy R (Ts.getD j .bool) (cs.getD j .top))/\∀ μ:DataW H->Nat,Meas μ->AV.wts cs<=μ d:=by
 obtain ⟨vs,rfl,_⟩:=okWide_struct ht q;obtain ⟨fuel,J⟩:=hd;obtain ⟨xs,ha,hw⟩:=xvO hm hf J;obtain ⟨l1,l2⟩:=ha.len;have l1':vs.size=Ts.length:=by simpa [Value.cells] using l1
 refine ⟨xs,.agg vs xs (by omega) fun i hi=>?_,l2,fun j hj=>(ha.get j hj).2,fun μ hμ=>hw μ hμ⟩
 have:=(ha.get i (by omega)).1
 simpa [Value.cells,z6,zt] using this
theorem xC8 (q:Value.okWide Tryz.prog w .any base 28 v) (hd:DataW.Trod enc Tryz.prog w b sp held 28 v d ps):∃ l:List M.Fc,Rel w (fun _=>False) xLz v (.list 3 (l.map M.encF))/\(∀ μ:DataW H->Nat,Meas μ->(AV.list 3 (l.map M.encF)).wt<=μ d)/\(l.length<=maxLen/\∀ y,y∈l->y.wf):=by
 obtain ⟨a,h,hT,hB⟩:=xGb recR Tryz.underlying28 xCO q hd;obtain ⟨l,rfl,hw⟩:=xlI (es:=tyF) xGE hT;exact ⟨l,h,hB,hw⟩
theorem xGa (q:Value.okWide Tryz.prog w .any base 3 v) (hd:DataW.Trod enc Tryz.prog w b sp held 3 v d ps):∃ m:Int,Rel w (fun _=>False) xLz v (.int .i64 m)/\(∀ μ:DataW H->Nat,Meas μ->(AV.int .i64 m).wt<=μ d)/\(Lit.int .i64 m).wf=true:=by
 obtain ⟨m,h1,h2,h3⟩:=xHA recR Tryz.underlying3 q hd;exact ⟨m,h1,h3,h2⟩
end
theorem xnP {H:Type}:∀ l:List (DataW H),Rows.uptoBulkAll l=(l.map Rows.uptoBulk).sum
 | []=>rfl
 | d::r=>by simp [Rows.uptoBulkAll,xnP r]
theorem xtp {H:Type}:Meas (Rows.uptoBulk (H:=H)) :=
 ⟨fun l=>by cases l<;>simp [Rows.uptoBulk],fun s=>by simp [Rows.uptoBulk],by simp [Rows.uptoBulk],fun es sp=>by simp only [Rows.uptoBulk,xnP];omega,fun l=>by simp only [Rows.uptoBulk,xnP];omega⟩
end Go.Sim
end
noncomputable section
set_option maxRecDepth 100000
namespace Go.Sim.M
open Go.RowKit
theorem shI (n:Int):xLj (Sh.int .i64) (AV.int .i64 n)=true:=rfl
theorem shS (s:List UInt8):xLj Sh.str (AV.str s)=true:=rfl
theorem shB (b:Bool):xLj Sh.bool (AV.bool b)=true:=rfl
structure Col where
 n:List UInt8
 k:Int
 nl:Bool
deriving Inhabited
def xKj (c:Col):AV:=.agg [.str c.n,.int .i64 c.k,.bool c.nl]
theorem cK0 (c:Col):(xKj c).cells.getD 0 .top=.str c.n:=rfl
theorem cK1 (c:Col):(xKj c).cells.getD 1 .top=.int .i64 c.k:=rfl
theorem cK2 (c:Col):(xKj c).cells.getD 2 .top=.bool c.nl:=rfl
theorem lK (c:Col):(xKj c).cells.length=3:=rfl
theorem sK (c:Col):xLq [.str,.int .i64,.bool] (xKj c).cells 0=true:=rfl
structure Fo where
 cols:List Int
 t:List UInt8
deriving Inhabited
def xKk (f:Fo):AV:=.agg [.list 1 (f.cols.map encN),.str f.t]
theorem cFo0 (f:Fo):(xKk f).cells.getD 0 .top=.list 1 (f.cols.map encN):=rfl
theorem cFo1 (f:Fo):(xKk f).cells.getD 1 .top=.str f.t:=rfl
theorem lFo (f:Fo):(xKk f).cells.length=2:=rfl
theorem sFo (f:Fo):xLq [.list 1,.str] (xKk f).cells 0=true:=rfl
inductive IsEx:AV->Prop
 | mk (op i vk vi:Int) (vt nm:List UInt8) (args:List AV) (ha:args.length<=16777216) (ht:vt.length<=16777216) (h:∀ x,x∈args->IsEx x):IsEx (.agg [.int .i64 op,.int .i64 i,.int .i64 vk,.int .i64 vi,.str vt,.str nm,.list 7 args])
theorem IsEx.get {x:AV} (h:IsEx x):∃ (op i vk vi:Int) (vt nm:List UInt8) (args:List AV),x=.agg [.int .i64 op,.int .i64 i,.int .i64 vk,.int .i64 vi,.str vt,.str nm,.list 7 args]/\args.length<=16777216/\vt.length<=16777216/\∀ y,y∈args->IsEx y:=by
 cases h with
 | mk op i vk vi vt nm args ha ht h=>exact ⟨op,i,vk,vi,vt,nm,args,rfl,ha,ht,h⟩
mutual
def AV.dp:AV->Nat
 | .agg cs=>AV.dps cs
 | .list _ xs=>AV.dps xs+1
 | _=>0
def AV.dps:List AV->Nat
 | []=>0
 | x::xs=>max (AV.dp x) (AV.dps xs)
end
theorem xws:∀ {xs:List AV} {x:AV},x∈xs->AV.dp x<=AV.dps xs
 | y::xs,x,h=>by
  unfold AV.dps;rcases zB.1 h with rfl|h
  . exact Nat.le_max_left _ _
  . exact Nat.le_trans (xws h) (Nat.le_max_right _ _)
structure Tab where
 n:List UInt8
 cols:List Col
 key:List Int
 fos:List Fo
 chk:List AV
deriving Inhabited
end Go.Sim.M
end
noncomputable section
set_option maxRecDepth 100000
namespace Go.Sim.M
open Go.RowKit
def outR {σ ρ:Type}:Option ρ->σ->Option (σ⊕ρ)
 | some x,_=>some (.inr x)
 | none,s=>some (.inl s)
theorem xHB {σ ρ:Type} (c:Bool) (a b:Option ρ) (s:σ):outR (br c a b) s=br c (outR a s) (outR b s):=by cases c<;>rfl
theorem xyB {σ ρ:Type} (x:ρ) (s:σ):outR (some x) s=some (.inr x):=rfl
theorem xyA {σ ρ:Type} (s:σ):outR (none:Option ρ) s=some (.inl s):=rfl
theorem xyh {σ ρ α:Type} {step:σ->Option (σ⊕ρ)} (L:List α) (st:Nat->σ) (e:α->Option ρ) (r0:ρ)
  (hs:∀ (k:Nat) (h:k<L.length),step (st k)=outR (e L[k]) (st (k+1))) (he:step (st L.length)=some (.inr r0)):∀ d k:Nat,k+d=L.length->Iter step (st k)=some (((L.drop k).findSome? e).getD r0)
 | 0,k,h=>by
  have:k=L.length:=by omega
  subst this;rw [zp (zb _)];exact xam he
 | d+1,k,h=>by
  have hk:k<L.length:=by omega
  have:=hs k hk;rw [xb4 hk,List.findSome?_cons];cases hc:e L[k] with
  | some x=>rw [hc,xyB] at this;rw [xam this];rfl
  | none=>rw [hc,xyA] at this;rw [xaF this];exact xyh L st e r0 hs he d (k+1) (by omega)
theorem xz5 {α ρ:Type} (p:α->Bool) (x:ρ):∀ L:List α,L.findSome? (fun a=>br (p a) (some x) none)=br (L.any p) (some x) none
 | []=>rfl
 | a::L=>by
  rw [List.findSome?_cons,List.any_cons];cases p a with
  | true=>rfl
  | false=>exact xz5 p x L
theorem xz9 {α:Type} (p:α->Bool):∀ (l:List α) (c:Bool),l.foldl (fun c x=>c || p x) c=(c || l.any p)
 | [],c=>by simp
 | x::l,c=>by rw [List.foldl_cons,xz9 p l,List.any_cons,Bool.or_assoc]
theorem xyb {α:Type} (p:α->Bool):∀ (l:List α) (c:Bool),l.foldl (fun c x=>c&&p x) c=(c&&l.all p)
 | [],c=>by simp
 | x::l,c=>by rw [List.foldl_cons,xyb p l,List.all_cons,Bool.and_assoc]
def trip (v:Val):Int×Int×List UInt8:=(v.k,v.i,v.t)
def atV (row:Row) (i:Int):Val:=if i<0 then ⟨0,0,[]⟩ else row.getD i.toNat ⟨0,0,[]⟩
theorem xD8 (row:Row) (i:Int):xsB (row.map encV) i=some (trip (atV row i)):=by
 unfold xsB xsC atV trip;by_cases h1:i<0
 . simp [xaP,h1,sUF]
 . by_cases h2:i>=(row.length:Int)
   . have h3:row.length<=i.toNat:=by omega
     simp [xaP,h1,h2,z6,zy h3,sUF]
   . have h3:i.toNat<row.length:=by omega
     have h4:0<=i:=by omega
     have h5:i<(row.length:Int):=by omega
     simp [xaP,h1,h2,h3,h4,h5,z6,AV.toInt,AV.toStr,sUF]
def pick (row:Row) (ks:List Int):Row:=ks.map (atV row)
theorem xsi (row:Row) (ks:List Int):(pick row ks).length=ks.length:=z8 _
theorem xtH (row:Row) (l:List Int) (hl:l.length<=1048576):Iter (xc9 (row.map encV) (l.map encN) ((l.length:Nat):Int)) ((0:Nat),(0:Int),[])=some ((l.flatMap (fun (f:Int)=>[atV row f])).length,(l.flatMap (fun (f:Int)=>[atV row f])).map encV):=by
 refine xk8 l (fun (f:Int)=>[atV row f]) encV 1 (fun f hf=>?_) (fun n h D hD=>?_) (fun D=>?_)
 . simp
 . have h1:(n:Int)<(l.length:Int):=by omega
   have m1:(D.length+1)*32<=140737488355328:=by omega
   have m2:D.length+1<=4611686018427387904:=by omega
   have gf:(l.map encN).getD n .top=encN l[n]:=xaa _ _ _ h;simp only [xc9,xi9,xil,xim,sBU,h,h1,gf,cN,sN,xD8,trip,m1,m2,xKl (n:=n) (by omega)]
   simp [encV]
 . simp only [xc9,xi9,xil,xim,z8,zx,zl,xae,sUF]
theorem xGg (row:Row) (ks:List Int) (hk:ks.length<=1048576):xpp (row.map encV) (ks.map encN)=some ((pick row ks).map encV):=by
 have e:=xtH row ks hk;rw [xKQ] at e;have b1:(32:Int)*(ks.length:Int)<=281474976710656:=by omega
 have b2:(ks.length:Int)<=4611686018427387904:=by omega
 change Iter _ _=some ((pick row ks).length,(pick row ks).map encV) at e;have tt:List.take (pick row ks).length ((pick row ks).map encV)=(pick row ks).map encV:=zh (by simp)
 unfold xpp xqn;simp only [xoX,xoY,xoZ,z8,e,b1,b2,zm,zR,xab,zj,zg,zG,zq,tt,zb,sUF]
theorem xww (n:List UInt8) (cs fs ck:List AV) (key:List Int) (row:Row) (hk:key.length<=1048576):xdq n cs (key.map encN) fs ck (row.map encV)=some ((pick row key).map encV):=by
 unfold xdq xqa;rw [xGg row key hk];rfl
end Go.Sim.M
end
noncomputable section
set_option maxRecDepth 100000
namespace Go.Sim.M
open Go.RowKit Go.Sim.Srt
def Strict {α:Type} (c:α->α->Int) (l:List α):Prop:=l.Pairwise fun x y=>c x y<0
theorem Cm.self {α:Type} {c:α->α->Int} (h:Cm c) (x:α):c x x=0:=by have:=h.swap x x;omega
theorem Strict.nodup {α:Type} {c:α->α->Int} (hc:Cm c) {l:List α} (h:Strict c l):l.Nodup :=
 List.Pairwise.imp (fun {x y} q he=>by subst he;rw [hc.self] at q;omega) h
theorem Strict.sorted {α:Type} {c:α->α->Int} {l:List α} (h:Strict c l):Sorted c l:=List.Pairwise.imp (fun q=>by omega) h
theorem xsT {α:Type} {c:α->α->Int} (hc:Cm c) (h0:∀ x y,c x y=0->x=y) {l m:List α} (hl:Strict c l) (hm:Strict c m) (h:∀ x,x∈l↔x∈m):l=m :=
 xsu hc h0 ((List.perm_ext_iff_of_nodup (hl.nodup hc) (hm.nodup hc)).2 h) hl.sorted hm.sorted
theorem xFh {α:Type} {c:α->α->Int} (h0:∀ x y,c x y=0->x=y) {l:List α} (hs:Sorted c l) (hn:l.Nodup):Strict c l :=
 (hs.and hn).imp fun {x y} h=>by
  have:=h.1;have h2:=h.2;by_cases he:c x y=0
  . exact absurd (h0 x y he) h2
  . omega
def cmpI (x y:Int):Int:=if x<y then -1 else if y<x then 1 else 0
def orI (x y:Int):Int:=if x=0 then y else x
def cmpP (x y:Per):Int:=orI (cmpI x.1 y.1) (cmpI x.2 y.2)
theorem xB0 (x y:Int):cmpI x y=if x<y then -1 else if y<x then 1 else 0:=rfl
theorem xtR {p q:Per}:cmpP p q<=0↔p.1<q.1\/p.1=q.1/\p.2<=q.2:=by
 unfold cmpP orI;simp only [xB0];repeat' split
 all_goals omega
theorem xwx (p q:Per):cmpP q p=-(cmpP p q):=by
 unfold cmpP orI;simp only [xB0];repeat' split
 all_goals omega
theorem xI0:Cm cmpP:=⟨xwx,fun x y z h1 h2=>by rw [xtR] at *;omega⟩
theorem xqB (p q:Per) (h:cmpP p q=0):p=q:=by
 have h1:cmpP p q<=0:=by omega
 have h2:cmpP q p<=0:=by rw [xwx];omega
 rw [xtR] at h1 h2;exact Prod.ext (by omega) (by omega)
theorem xyU {p:Per} {l:List Per} (h:IsSpan (p::l)):IsSpan l:=⟨fun q hq=>h.1 q (by simp [hq]),(zL.1 h.2).2⟩
theorem xv2:∀ {A:List Per},IsSpan A->∀ t,A.countP (hasP · t)=if inL A t=true then 1 else 0
 | [],_,t=>by simp [xm9]
 | p::A,h,t=>by
  have ih:=xv2 (xyU h) t;rw [List.countP_cons,ih,xhU];cases hp:hasP p t with
  | false=>simp
  | true=>rw [xtF h hp];simp
theorem xsv {A:List Per} (h:IsSpan A) (h0:∀ t,inL A t=false):A=[]:=xe9 h xpg fun t=>by rw [h0,xm9]
theorem xFk (N:Nat):∀ n:Nat,((List.range n).map fun h=>if h<N then 1 else 0).sum=min n N
 | 0=>by simp
 | n+1=>by rw [List.range_succ,zw,List.sum_append,xFk N n];simp;split<;>omega
structure IsLevs (N:Int->Nat) (P:List Per):Prop where
 sorted:Sorted cmpP P
 lev:∃ (A:Nat->List Per) (H:Nat),(∀ t,N t<=H)/\(∀ h,IsSpan (A h)/\∀ t,inL (A h) t=decide (h<N t))/\P.Perm ((List.range H).flatMap A)
theorem xmg (A:Nat->List Per) (H:Nat) (h0:∀ h,H<=h->A h=[]):∀ d,(List.range (H+d)).flatMap A=(List.range H).flatMap A
 | 0=>rfl
 | d+1=>by rw [<-Nat.add_assoc,List.range_succ,List.flatMap_append,xmg A H h0 d,zQ,h0 (H+d) (by omega)];simp
theorem IsLevs.unique {N:Int->Nat} {P P':List Per} (h:IsLevs N P) (h':IsLevs N P'):P=P':=by
 obtain ⟨A,H,h1,h2,h3⟩:=h.lev;obtain ⟨A',H',O,q,Q⟩:=h'.lev;obtain rfl:A=A':=funext fun k=>xe9 (h2 k).1 (q k).1 fun t=>by rw [(h2 k).2,(q k).2]
 have nil:∀ K,(∀ t,N t<=K)->∀ k,K<=k->A k=[]:=fun K hK k hk=>xsv (h2 k).1 fun t=>by rw [(h2 k).2];have:=hK t;simp;omega
 refine xsu xI0 xqB (h3.trans (List.Perm.trans (.of_eq ?_) Q.symm)) h.sorted h'.sorted;rcases Nat.le_total H H' with J|J
 . have:=xmg A H (nil H h1) (H' - H);rw [show H+(H' - H)=H' by omega] at this
   exact this.symm
 . have:=xmg A H' (nil H' O) (H - H');rw [show H'+(H - H')=H by omega] at this
   exact this
theorem IsLevs.count {N:Int->Nat} {P:List Per} (h:IsLevs N P) (t:Int):P.countP (hasP · t)=N t:=by
 obtain ⟨A,H,h1,h2,h3⟩:=h.lev;rw [h3.countP_eq,List.countP_flatMap];have:(List.countP (fun x=>hasP x t)∘A)=fun k=>if k<N t then 1 else 0:=funext fun k=>by
  show List.countP (hasP · t) (A k)=_;rw [xv2 (h2 k).1,(h2 k).2];simp
 rw [this,xFk];have:=h1 t;omega
theorem IsLevs.valid {N:Int->Nat} {P:List Per} (h:IsLevs N P):∀ p,p∈P->pv p=true:=fun p hp=>by
 obtain ⟨A,H,h1,h2,h3⟩:=h.lev;obtain ⟨k,_,hk⟩:=y2.1 (h3.mem_iff.1 hp);exact (h2 k).1.1 p hk
theorem xHt {A:List Per} {N:Int->Nat} {k:Nat} (hs:IsSpan A) (hN:∀ t,inL A t=decide (k<N t)) {p:Per} (hp:p∈A):(∀ t,p.1<=t->t<p.2->k<N t)/\N (p.1 - 1)<=k/\N p.2<=k:=by
 have hv:=xbX.1 (hs.1 p hp);refine ⟨fun t h1 h2=>?_,?_,?_⟩
 . have:inL A t=true:=xel.2 ⟨p,hp,hs.1 p hp,h1,h2⟩;rw [hN] at this;simpa using this
 . have:inL A (p.1 - 1)=false:=by
    cases hc:inL A (p.1 - 1) with
    | false=>rfl
    | true =>
     obtain ⟨q,hq,Q,h1,h2⟩:=xel.1 hc;have hne:p≠q:=fun e=>by subst e;omega
     rcases pairwise_mem hs.2 hp hq hne with h|h<;>omega
   rw [hN] at this;simpa using this
 . have:inL A p.2=false:=by
    cases hc:inL A p.2 with
    | false=>rfl
    | true =>
     obtain ⟨q,hq,Q,h1,h2⟩:=xel.1 hc;have hne:p≠q:=fun e=>by subst e;omega
     rcases pairwise_mem hs.2 hp hq hne with h|h<;>omega
   rw [hN] at this;simpa using this
where
 pairwise_mem {l:List Per} (h:l.Pairwise fun p q=>p.2<q.1) {p q:Per} (hp:p∈l) (hq:q∈l) (hne:p≠q):p.2<q.1\/q.2<p.1:=by
  induction l with
  | nil=>simp at hp
  | cons x l ih =>
   obtain ⟨h1,h2⟩:=zL.1 h;rcases zB.1 hp with e1|O
   . rcases zB.1 hq with e2|J
     . exact absurd (e1.trans e2.symm) hne
     . exact .inl (e1▸h1 q J)
   . rcases zB.1 hq with e2|J
     . exact .inr (e2▸h1 p O)
     . exact ih h2 O J
def cnt (l:List Fc) (r:Row) (t:Int):Nat:=l.countP fun f=>decide (f.r=r)&&hasP f.p t
def IsRows (l:List Fc) (R:List Row):Prop:=Strict cmpR R/\∀ r,r∈R↔∃ f,f∈l/\f.r=r/\pv f.p=true
theorem xtT {l:List Fc} {r:Row} {t:Int}:0<cnt l r t↔∃ f,f∈l/\f.r=r/\hasP f.p t=true:=by
 unfold cnt;rw [List.countP_pos_iff];simp
theorem xyY {p:Per} (h:pv p=true):hasP p p.1=true:=by
 have:=xbX.1 h;exact xa4.2 ⟨h,by omega,by omega⟩
theorem xtd {p:Per} {t:Int} (h:hasP p t=true):pv p=true:=(xa4.1 h).1
theorem xvb {l:List Fc} {r:Row}:(∃ f,f∈l/\f.r=r/\pv f.p=true)↔∃ t,0<cnt l r t:=by
 constructor
 . rintro ⟨f,h1,h2,h3⟩;exact ⟨f.p.1,xtT.2 ⟨f,h1,h2,xyY h3⟩⟩
 . rintro ⟨t,h⟩;obtain ⟨f,h1,h2,h3⟩:=xtT.1 h;exact ⟨f,h1,h2,xtd h3⟩
theorem IsRows.unique {l l':List Fc} {R R':List Row} (h:IsRows l R) (h':IsRows l' R') (hc:∀ r t,cnt l r t=cnt l' r t):R=R' :=
 xsT xta (fun _ _=>xn1) h.1 h'.1 fun r=>by rw [h.2,h'.2,xvb,xvb];simp only [hc]
def facts (R:List Row) (L:Row->List Per):List Fc:=R.flatMap fun r=>(L r).map fun p=>⟨r,p⟩
def xKG (l B:List Fc):Prop:=∃ R L,IsRows l R/\(∀ r,r∈R->IsLevs (cnt l r) (L r))/\B=facts R L
def xKH (l B:List Fc):Prop:=∃ R L,IsRows l R/\(∀ r,r∈R->IsSpan (L r)/\∀ t,inL (L r) t=decide (0<cnt l r t))/\B=facts R L
theorem xq8 {R:List Row} {L L':Row->List Per} (h:∀ r,r∈R->L r=L' r):facts R L=facts R L':=by
 unfold facts;induction R with
 | nil=>rfl
 | cons r R ih=>rw [zQ,zQ,h r (by simp),ih fun x hx=>h x (by simp [hx])]
theorem xKG.unique {l l' B B':List Fc} (h:xKG l B) (h':xKG l' B') (hc:∀ r t,cnt l r t=cnt l' r t):B=B':=by
 obtain ⟨R,L,h1,h2,rfl⟩:=h;obtain ⟨R',L',q,J,rfl⟩:=h';obtain rfl:=h1.unique q hc;refine xq8 fun r hr=>(h2 r hr).unique ?_
 have:=J r hr;rwa [<-show cnt l r=cnt l' r from funext fun t=>hc r t] at this
theorem xKH.unique {l l' B B':List Fc} (h:xKH l B) (h':xKH l' B') (hc:∀ r t,cnt l r t=cnt l' r t):B=B':=by
 obtain ⟨R,L,h1,h2,rfl⟩:=h;obtain ⟨R',L',J,q,rfl⟩:=h';obtain rfl:=h1.unique J hc;exact xq8 fun r hr=>xe9 (h2 r hr).1 (q r hr).1 fun t=>by rw [(h2 r hr).2,(q r hr).2,hc]
theorem IsRows.zero {l:List Fc} {R:List Row} (h:IsRows l R) {r:Row} (hr:r∉R) (t:Int):cnt l r t=0:=by
 cases hc:cnt l r t with
 | zero=>rfl
 | succ n=>exact absurd ((h.2 r).2 (xvb.2 ⟨t,by omega⟩)) hr
theorem xn5 {R:List Row} {L:Row->List Per} {f:Fc} (h:f∈facts R L):f.r∈R/\f.p∈L f.r:=by
 obtain ⟨r,hr,h⟩:=y2.1 h;obtain ⟨p,hp,rfl⟩:=zJ.1 h;exact ⟨hr,hp⟩
theorem xKG.valid {l B:List Fc} (h:xKG l B) {f:Fc} (hf:f∈B):pv f.p=true/\∃ g,g∈l/\g.r=f.r:=by
 obtain ⟨R,L,h1,h2,rfl⟩:=h;obtain ⟨a,b⟩:=xn5 hf;refine ⟨(h2 _ a).valid _ b,?_⟩;obtain ⟨g,g1,g2,_⟩:=(h1.2 _).1 a;exact ⟨g,g1,g2⟩
def psOf (l:List Fc) (r:Row):List Per:=(l.filter fun f=>decide (f.r=r)&&pv f.p).map (·.p)
theorem xAF (l:List Fc) (r:Row) (t:Int):(psOf l r).countP (hasP · t)=cnt l r t:=by
 unfold psOf cnt;rw [List.countP_map,List.countP_filter];refine List.countP_congr fun f _=>?_
 simp only [Function.comp,ze,zk];constructor
 . rintro ⟨h1,h2,_⟩;exact ⟨h2,h1⟩
 . rintro ⟨h1,h2⟩;exact ⟨h2,h1,xtd h2⟩
theorem xEW (l:List Fc) (r:Row):(psOf l r).length<=l.length:=by unfold psOf;rw [z8];exact List.length_filter_le _ _
theorem xCI {ps:List Per} {t:Int} {k:Nat} (h1:k<ps.countP (hasP · t)) (h2:ps.countP (hasP · (t - 1))<=k):t∈ps.map (·.1):=by
 have:∃ p,p∈ps/\hasP p t=true/\hasP p (t - 1)=false:=by
  refine Classical.byContradiction fun hn=>?_
  have:ps.countP (hasP · t)<=ps.countP (hasP · (t - 1)):=List.countP_mono_left fun p hp h=>by
   cases hc:hasP p (t - 1) with
   | true=>rfl
   | false=>exact absurd ⟨p,hp,h,hc⟩ hn
  omega
 obtain ⟨p,hp,a,b⟩:=this;obtain ⟨hv,x,y⟩:=xa4.1 a;have:¬ p.1<=t - 1:=fun h=>by rw [xa4.2 ⟨hv,h,by omega⟩] at b;cases b
 exact zJ.2 ⟨p,hp,by omega⟩
theorem xwy {ps A:List Per} {k:Nat} (hs:IsSpan A) (hN:∀ t,inL A t=decide (k<ps.countP (hasP · t))):A.length<=ps.length:=by
 have hn:(A.map (·.1)).Nodup:=by
  unfold List.Nodup;rw [List.pairwise_map];refine List.Pairwise.imp_of_mem (fun {p q} hp hq h=>?_) hs.2
  have:=xbX.1 (hs.1 p hp);omega
 have:(A.map (·.1)) ⊆ ps.map (·.1):=fun t ht=>by
  obtain ⟨p,hp,rfl⟩:=zJ.1 ht;obtain ⟨a,b,_⟩:=xHt (N:=fun t=>ps.countP (hasP · t)) hs hN hp
  have hv:=xbX.1 (hs.1 p hp);exact xCI (a p.1 (Int.le_refl _) (by omega)) b
 have:=hn.length_le_of_subset this;simpa using this
theorem IsLevs.len {ps P:List Per} (h:IsLevs (fun t=>ps.countP (hasP · t)) P):P.length<=ps.length*ps.length:=by
 obtain ⟨A,H,h1,h2,h3⟩:=h.lev;have hx:P.length=((List.range ps.length).flatMap A).length:=by
  rw [h3.length_eq];have nil:∀ k,ps.length<=k->A k=[]:=fun k hk=>xsv (h2 k).1 fun t=>by
   rw [(h2 k).2];have:=List.countP_le_length (p:=(hasP · t)) (l:=ps);simp;omega
  have q:∀ k,H<=k->A k=[]:=fun k hk=>xsv (h2 k).1 fun t=>by
   rw [(h2 k).2];have:=h1 t;simp;omega
  rcases Nat.le_total H ps.length with J|J
  . have:=xmg A H q (ps.length - H);rw [show H+(ps.length - H)=ps.length by omega] at this
    rw [this]
  . have:=xmg A ps.length nil (H - ps.length);rw [show ps.length+(H - ps.length)=H by omega] at this
    rw [this]
 rw [hx];have:=xm8 (g:=A) (c:=ps.length) (List.range ps.length) fun k _=>xwy (h2 k).1 (h2 k).2
 simpa using this
theorem xth {L:Row->List Per}:∀ {R:List Row} {l:List Fc},R.Nodup->(∀ r,r∈R->(L r).length<=(psOf l r).length*(psOf l r).length)->(facts R L).length<=l.length*l.length
 | [],l,_,_=>by simp [facts]
 | r::R,l,hn,h=>by
  obtain ⟨n1,n2⟩:=List.nodup_cons.1 hn;have e:facts (r::R) L=((L r).map fun p=>(⟨r,p⟩:Fc))++facts R L:=by simp [facts]
  let l2:=l.filter fun f=>!decide (f.r=r)
  have J:∀ r',r'∈R->psOf l2 r'=psOf l r':=fun r' q=>by
   have hne:r'≠r:=fun e=>n1 (e▸q)
   unfold psOf;simp only [l2,List.filter_filter];congr 1;refine List.filter_congr fun f _=>?_
   by_cases hf:f.r=r'
   . have:¬ f.r=r:=fun e=>hne (hf▸e)
     simp [hf,hne]
   . simp [hf]
  have ih:=xth (L:=L) (l:=l2) n2 fun r' q=>by rw [J r' q];exact h r' (by simp [q])
  have h1:=h r (by simp)
  have hl:(psOf l r).length+l2.length<=l.length:=by
   unfold psOf;rw [z8];have:=List.length_eq_countP_add_countP (fun f:Fc=>decide (f.r=r)) (l:=l)
   have a1:(l.filter fun f=>decide (f.r=r)&&pv f.p).length<=l.countP fun f=>decide (f.r=r):=by
    rw [<-List.countP_eq_length_filter];exact List.countP_mono_left fun f _ hf=>by simp only [ze] at hf;exact hf.1
   have a2:l2.length=l.countP fun f=>¬ decide (f.r=r)=true:=by
    rw [List.countP_eq_length_filter];simp [l2]
   omega
  rw [e,z7,z8];have m1:=Nat.mul_le_mul hl hl;have m2:(psOf l r).length*(psOf l r).length+l2.length*l2.length<=((psOf l r).length+l2.length)*((psOf l r).length+l2.length):=by
   rw [Nat.add_mul,Nat.mul_add,Nat.mul_add];omega
  omega
theorem xKG.len {l B:List Fc} (h:xKG l B):B.length<=l.length*l.length:=by
 obtain ⟨R,L,h1,h2,rfl⟩:=h;refine xth (h1.1.nodup xta) fun r hr=>?_
 have:=h2 r hr;rw [show cnt l r=fun t=>(psOf l r).countP (hasP · t) from funext fun t=>(xAF l r t).symm] at this
 exact this.len
section
variable {α : Type} {enc : α -> AV} {okE : AV -> Bool} {ldE : AV -> AV}
theorem gR {l:List α} {i:Nat} {x:α} (h:l[i]?=some x):(List.map enc l).getD i .top=enc x:=by
 simp [List.getD,h]
theorem setR (l:List α) (i:Nat) (x:α):(List.map enc l).set i (enc x)=List.map enc (l.set i x):=by
 simp [List.map_set]
theorem xyq {l:List α} {i:Nat} {x:α} (h:l[i]?=some x):i<l.length:=(List.getElem?_eq_some_iff.1 h).1
theorem xpi {l:List α} {i:Nat} {x:α} (h:l[i]?=some x):x∈l:=List.mem_of_getElem? h
theorem xF6 {l:List α} {i j:Nat} {x y:α} (hx:x∈l) (hy:y∈l) {z:α} (h:z∈(l.set i y).set j x):z∈l:=by
 rcases List.mem_or_eq_of_mem_set h with h|rfl
 . rcases List.mem_or_eq_of_mem_set h with h|rfl
   . exact h
   . exact hy
 . exact hx
theorem w64 {x:Int} {n:Nat} (h:x=(n:Int)) (hn:n<=9223372036854775807):IntKind.i64.wrap x=(n:Int):=by
 rw [xdX (by omega) (by omega)];exact h
structure LOk (N:Nat) (ok:α->Prop) (l:List α):Prop where
 len:l.length=N
 ok:∀ x,x∈l->ok x
theorem LOk.set2 {N:Nat} {ok:α->Prop} {l:List α} (h:LOk N ok l) {i j:Nat} {x y:α} (hx:x∈l) (hy:y∈l):LOk N ok ((l.set i y).set j x) :=
 ⟨by simp [h.len],fun z hz=>h.ok z (xF6 hx hy hz)⟩
theorem LOk.perm {N:Nat} {ok:α->Prop} {l l':List α} (h:LOk N ok l) (hp:l'.Perm l):LOk N ok l' :=
 ⟨hp.length_eq.trans h.len,fun z hz=>h.ok z (hp.mem_iff.1 hz)⟩
theorem xyi {σ ρ σ' ρ':Type} {p:σ->Option (σ⊕ρ)} {g:σ'->Option (σ'⊕ρ')} (I:σ->Prop) (J:ρ->Prop) (e:σ->σ') (f:ρ->ρ')
  (h:∀ s,I s->(∀ s',p s=some (.inl s')->g (e s)=some (.inl (e s'))/\I s')/\(∀ r,p s=some (.inr r)->g (e s)=some (.inr (f r))/\J r)) {s:σ} {r:ρ} (hI:I s) (hr:Iter p s=some r):Iter g (e s)=some (f r)/\J r:=by
 obtain ⟨n,hn⟩:=xpE.1 hr;clear hr;induction n generalizing s with
 | zero=>simp [iterN] at hn
 | succ n ih =>
  unfold iterN at hn;obtain ⟨h1,h2⟩:=h s hI;split at hn
  . rename_i s' hs;obtain ⟨h3,h4⟩:=h1 s' hs;rw [xaF h3];exact ih h4 hn
  . rename_i r' hs;cases hn;obtain ⟨h3,h4⟩:=h2 _ hs;exact ⟨xam h3,h4⟩
  . simp at hn
theorem xGT {σ ρ σ' ρ':Type} {p:Option (σ⊕ρ)} {g:Option (σ'⊕ρ')} {I:σ->Prop} {J:ρ->Prop} {e:σ->σ'} {f:ρ->ρ'} {s0:σ} (hp:p=some (.inl s0)) (hg:g=some (.inl (e s0))) (hI:I s0) :
  (∀ s',p=some (.inl s')->g=some (.inl (e s'))/\I s')/\(∀ r,p=some (.inr r)->g=some (.inr (f r))/\J r) :=
 ⟨fun s' h=>by rw [hp] at h;simp only [z1,Sum.inl.injEq] at h;subst h;exact ⟨hg,hI⟩,fun r h=>by rw [hp] at h;simp at h⟩
theorem xAd {σ ρ σ' ρ':Type} {p:Option (σ⊕ρ)} {g:Option (σ'⊕ρ')} {I:σ->Prop} {J:ρ->Prop} {e:σ->σ'} {f:ρ->ρ'} {r0:ρ} (hp:p=some (.inr r0)) (hg:g=some (.inr (f r0))) (hJ:J r0) :
  (∀ s',p=some (.inl s')->g=some (.inl (e s'))/\I s')/\(∀ r,p=some (.inr r)->g=some (.inr (f r))/\J r) :=
 ⟨fun s' h=>by rw [hp] at h;simp at h,fun r h=>by rw [hp] at h;simp only [z1,Sum.inr.injEq] at h;subst h;exact ⟨hg,hJ⟩⟩
theorem xwt {σ ρ σ' ρ':Type} {p:Option (σ⊕ρ)} {g:Option (σ'⊕ρ')} {I:σ->Prop} {J:ρ->Prop} {e:σ->σ'} {f:ρ->ρ'} (hp:p=none) :
  (∀ s',p=some (.inl s')->g=some (.inl (e s'))/\I s')/\(∀ r,p=some (.inr r)->g=some (.inr (f r))/\J r) :=
 ⟨fun s' h=>by rw [hp] at h;simp at h,fun r h=>by rw [hp] at h;simp at h⟩
theorem xCm {N:Nat} (he:∀ a,okE (enc a)=true) (hd:∀ a,ldE (enc a)=enc a) (hN:N<=2 ^ 60) {ok:α->Prop} {c:α->α->Int} {P:AV->AV->Bool} {V:AV->AV->Int} (hc:∀ x y,ok x->ok y->P (enc x) (enc y)=true/\V (enc x) (enc y)=c x y)
  {g:Int×List AV->Option ((Int×List AV)⊕List AV)} (a:Nat)
  (hg:∀ (j:Int) (xs:List AV),g (j,xs)=br (decide (j>(a:Int))) (br (decide ((0:Int)<=j)&&decide (j<(N:Int))) (br (decide ((0:Nat)+j.toNat<xs.length)&&okE (xs.getD ((0:Nat)+j.toNat) AV.top))
   (br (decide ((0:Int)<=IntKind.i64.wrap (j - 1))&&decide (IntKind.i64.wrap (j - 1)<(N:Int))) (br (decide ((0:Nat)+(IntKind.i64.wrap (j - 1)).toNat<xs.length)&&okE (xs.getD ((0:Nat)+(IntKind.i64.wrap (j - 1)).toNat) AV.top))
   (br (P (xs.getD ((0:Nat)+j.toNat) AV.top) (xs.getD ((0:Nat)+(IntKind.i64.wrap (j - 1)).toNat) AV.top))
   (br (decide (V (xs.getD ((0:Nat)+j.toNat) AV.top) (xs.getD ((0:Nat)+(IntKind.i64.wrap (j - 1)).toNat) AV.top)<0))
   (br (decide ((0:Int)<=IntKind.i64.wrap (j - 1))&&decide (IntKind.i64.wrap (j - 1)<(N:Int))) (br (decide ((0:Nat)+(IntKind.i64.wrap (j - 1)).toNat<xs.length)&&okE (xs.getD ((0:Nat)+(IntKind.i64.wrap (j - 1)).toNat) AV.top))
   (br (decide ((0:Int)<=j)&&decide (j<(N:Int))) (br (decide ((0:Nat)+j.toNat<xs.length)&&okE (xs.getD ((0:Nat)+j.toNat) AV.top))
   (br (decide ((0:Int)<=j)&&decide (j<(N:Int))) (br (decide ((0:Nat)+j.toNat<xs.length)) (br (decide ((0:Int)<=IntKind.i64.wrap (j - 1))&&decide (IntKind.i64.wrap (j - 1)<(N:Int)))
   (br (decide ((0:Nat)+(IntKind.i64.wrap (j - 1)).toNat<(xs.set ((0:Nat)+j.toNat) (ldE (xs.getD ((0:Nat)+(IntKind.i64.wrap (j - 1)).toNat) AV.top))).length))
    (some (.inl (IntKind.i64.wrap (j - 1),(xs.set ((0:Nat)+j.toNat) (ldE (xs.getD ((0:Nat)+(IntKind.i64.wrap (j - 1)).toNat) AV.top))).set ((0:Nat)+(IntKind.i64.wrap (j - 1)).toNat) (ldE (xs.getD ((0:Nat)+j.toNat) AV.top)))))
    none) none) none) none) none) none) none) none) (some (.inr xs))) none) none) none) none) none) (some (.inr xs)))
  {j:Nat} {l r:List α} (hl:LOk N ok l) (hr:Iter (xKo c a) (j,l)=some r):Iter g ((j:Int),List.map enc l)=some (List.map enc r)/\LOk N ok r:=by
 refine xyi (I:=fun s=>LOk N ok s.2) (J:=LOk N ok) (e:=fun s=>((s.1:Int),List.map enc s.2)) (f:=List.map enc) ?_ (s:=(j,l)) hl hr
 rintro ⟨j,l⟩ (hl:LOk N ok l);have U:l.length=N:=hl.len;by_cases ha:a<j
 . cases hx:l[j]? with
   | none=>exact xwt (by simp [xKo,ha,hx])
   | some x =>
    cases hy:l[j - 1]? with
    | none=>exact xwt (by simp [xKo,ha,hx,hy])
    | some y =>
     have hj:=xyq hx;have Q:=xyq hy;have w1:IntKind.i64.wrap ((j:Int) - 1)=((j - 1:Nat):Int):=w64 (by omega) (by omega)
     obtain ⟨c1,c2⟩:=hc x y (hl.ok _ (xpi hx)) (hl.ok _ (xpi hy));have k1:(j:Int)<(N:Int):=by omega
     have k2:((j - 1:Nat):Int)<(N:Int):=by omega
     have k3:(j:Int)>(a:Int):=by omega
     have k4:j<(List.map enc l).length:=by simpa using hj
     have k5:j - 1<(List.map enc l).length:=by simpa using Q
     by_cases O:c x y<0
     . have hp:xKo c a (j,l)=some (.inl (j - 1,(l.set j y).set (j - 1) x)):=by simp [xKo,ha,hx,hy,O]
       have q:g ((j:Int),List.map enc l)=some (.inl (((j - 1:Nat):Int),List.map enc ((l.set j y).set (j - 1) x))):=by
        rw [hg];simp only [w1,zM,zG,gR hx,gR hy,he,hd,c1,c2,setR,O,k1,k2,k3,k4,k5,zm,zR,xab,Int.natCast_nonneg,z8,y1,hj,Q,sUF]
       exact xGT hp q (hl.set2 (xpi hx) (xpi hy))
     . have hp:xKo c a (j,l)=some (.inr l):=by simp [xKo,ha,hx,hy,O]
       have q:g ((j:Int),List.map enc l)=some (.inr (List.map enc l)):=by
        rw [hg];simp only [w1,zM,zG,gR hx,gR hy,he,hd,c1,c2,setR,O,k1,k2,k3,k4,k5,zm,zl,zR,xab,xae,Int.natCast_nonneg,sUF]
       exact xAd hp q hl
 . have hp:xKo c a (j,l)=some (.inr l):=by simp [xKo,ha]
   have k3:¬ ((j:Int)>(a:Int)):=by omega
   have q:g ((j:Int),List.map enc l)=some (.inr (List.map enc l)):=by
    rw [hg];simp only [k3,zl,xae,sUF]
   exact xAd hp q hl
theorem xAV {N:Nat} (hN:N<=2 ^ 60) {ok:α->Prop} {c:α->α->Int} (a b:Nat) (hb:b<=N) {gi:Int->Int×List AV->Option ((Int×List AV)⊕List AV)}
  (hi:∀ (i:Nat) (l r:List α),LOk N ok l->Iter (xKo c a) (i,l)=some r->Iter (gi i) ((i:Int),List.map enc l)=some (List.map enc r)/\LOk N ok r)
  {g:Int×List AV->Option ((Int×List AV)⊕List AV)}
  (hg:∀ (i:Int) (xs:List AV),g (i,xs)=br (decide (i<(b:Int))) (br (Iter (gi i) (i,xs)).isSome (some (.inl (IntKind.i64.wrap (i+1),(Iter (gi i) (i,xs)).getD []))) none) (some (.inr xs)))
  {i:Nat} {l r:List α} (hl:LOk N ok l) (hr:Iter (xKy c a b) (i,l)=some r):Iter g ((i:Int),List.map enc l)=some (List.map enc r)/\LOk N ok r:=by
 refine xyi (I:=fun s=>LOk N ok s.2) (J:=LOk N ok) (e:=fun s=>((s.1:Int),List.map enc s.2)) (f:=List.map enc) ?_ (s:=(i,l)) hl hr
 rintro ⟨i,l⟩ (hl:LOk N ok l);by_cases h:i<b
 . cases hs:Iter (xKo c a) (i,l) with
   | none=>exact xwt (by simp [xKy,h,hs])
   | some l1 =>
    obtain ⟨e1,e2⟩:=hi i l l1 hl hs;refine xGT (s0:=(i+1,l1)) (by simp [xKy,h,hs]) ?_ e2
    rw [hg,show decide ((i:Int)<(b:Int))=true by simp [h],xab,e1,w64 (x:=(i:Int)+1) (n:=i+1) (by omega) (by omega)]
    rfl
 . refine xAd (r0:=l) (by simp [xKy,h]) ?_ hl
   rw [hg,show decide ((i:Int)<(b:Int))=false by simp;omega,xae]
end
end Go.Sim.M
end
noncomputable section
set_option maxRecDepth 100000
namespace Go.Sim.M
open Go.RowKit Go.Sim.Srt
def xKI (l:List Row):Prop:=l.length<=1048576/\∀ x,x∈l->x.length<=1048576
theorem xKI.perm {l l':List Row} (h:xKI l) (hp:l'.Perm l):xKI l':=⟨by rw [hp.length_eq];exact h.1,fun x hx=>h.2 x (hp.mem_iff.1 hx)⟩
theorem xHD {n f:Nat} (h:n<=1048576) (hf:20<=f):n<=2 ^ f:=Nat.le_trans h (Nat.pow_le_pow_right (n:=2) (by omega) hf:2 ^ 20<=2 ^ f)
theorem xD9 (x y:Row) (hx:x.length<=maxLen):xmj (x.map encV) (y.map encV) []=some (decide (cmpR x y<0)):=by
 have h:Iter (xcm (x.map encV) (y.map encV) []) (0:Int)=some (false,false,()):=xam (by
  simp only [xcm,xkl,List.length_nil,sUF];rfl)
 unfold xmj xne;rw [h,xwI x y hx];rfl
theorem xEK (a b:List Row) (ha:a.length+b.length<=1048576) (Z:∀ x,x∈a->x.length<=1048576) (W:∀ x,x∈b->x.length<=1048576) (sa:Sorted (cmpR) a) (sb:Sorted (cmpR) b) :
  ∀ (n i k:Nat) (D:List Row),(a.length - i)+(b.length - k)=n->i<=a.length->k<=b.length->D.length=i+k ->
   ∃ r,Iter (xaR (List.map encR a) (List.map encR b) []) (D.length,(i:Int),(k:Int),List.map encR D)=some (a.length+b.length,List.map encR (D++r))/\r.Perm (a.drop i++b.drop k)/\Sorted (cmpR) r:=by
 intro n;induction n with
 | zero =>
  intro i k D hn hi hk hD;have h1:¬ (i:Int)<(a.length:Int):=by omega
  have h2:¬ (k:Int)<(b.length:Int):=by omega
  refine ⟨[],xam ?_,?_,by simp [Sorted]⟩
  . simp only [xaR,xcB,xbS,xbT,xbU,xb7,xb8,xb9,xca,  z8,xaP,h1,h2,zl,zS,if_false,zC,sUF];rw [show D.length=a.length+b.length by omega]
  . rw [zp (by omega),zp (by omega)];exact List.Perm.refl _
 | succ n ih =>
  intro i k D hn hi hk hD;have Y:(List.map encR D).length=D.length:=by simp
  have m1:(D.length+1)*24<=140737488355328:=by omega
  have m2:D.length+1<=4611686018427387904:=by omega
  have snoc:∀ x:Row,List.map encR D++[AV.list 3 (x.map encV)]=List.map encR (D++[x]):=fun x=>by simp [encR]
  have wi:=xlr (n:=i) (show i+1<=maxLen by unfold maxLen;omega)
  have wk:=xlr (n:=k) (show k+1<=maxLen by unfold maxLen;omega)
  by_cases J:i<a.length
  . have i1:(i:Int)<(a.length:Int):=by omega
    have i2:((i:Int)==(a.length:Int))=false:=by simp;omega
    have hx:a[i]?=some a[i]:=by simp [J]
    by_cases q:k<b.length
    . have k1:(k:Int)<(b.length:Int):=by omega
      have hy:b[k]?=some b[k]:=by simp [q]
      have e:=xD9 b[k] a[i] (by have:=W b[k] (zn q);unfold maxLen;omega)
      by_cases hc:cmpR b[k] a[i]<0
      . obtain ⟨r,h1,h2,h3⟩:=ih i (k+1) (D++[b[k]]) (by omega) hi (by omega) (by simp;omega)
        refine ⟨b[k]::r,?_,?_,?_⟩
        . refine xfk (s':=((D++[b[k]]).length,(i:Int),((k+1:Nat):Int),List.map encR (D++[b[k]]))) ?_ (by rw [h1];simp)
          simp only [xaR,xcB,xbS,xbT,xbU,xb7,xb8,xb9,xca,  z8,xaP,i1,i2,k1,J,q,zm,zS,if_false,if_true,zM,gR hx,gR hy,cR0,sR0,e,zj,zg,hc,Int.natCast_nonneg,zR,beq_self_eq_true,m1,m2,snoc,wk,sUF];simp
        . rw [xb4 q];exact (h2.cons _).trans List.perm_middle.symm
        . refine zL.2 ⟨fun z hz=>?_,h3⟩
          rcases zF.1 (h2.mem_iff.1 hz) with hz|hz
          . rw [xb4 J] at hz;rcases zB.1 hz with rfl|hz
            . omega
            . obtain ⟨j,hj,rfl⟩:=zo.1 hz;have O:i+1+j<a.length:=by simp at hj;omega
              have:=xj4 sa (i:=i) (j:=i+1+j) (by omega) O
              rw [List.getElem_drop];exact xta.trans _ _ _ (Int.le_of_lt hc) this
          . obtain ⟨j,hj,rfl⟩:=zo.1 hz;have Q:k+1+j<b.length:=by simp at hj;omega
            rw [List.getElem_drop];exact xj4 sb (i:=k) (j:=k+1+j) (by omega) Q
      . obtain ⟨r,h1,h2,h3⟩:=ih (i+1) k (D++[a[i]]) (by omega) (by omega) hk (by simp;omega)
        refine ⟨a[i]::r,?_,?_,?_⟩
        . refine xfk (s':=((D++[a[i]]).length,((i+1:Nat):Int),(k:Int),List.map encR (D++[a[i]]))) ?_ (by rw [h1];simp)
          simp only [xaR,xcB,xbS,xbT,xbU,xb7,xb8,xb9,xca,  z8,xaP,i1,i2,k1,J,q,zm,zS,if_false,if_true,zM,gR hx,gR hy,cR0,sR0,e,zj,zg,hc,zl,Int.natCast_nonneg,zR,beq_self_eq_true,m1,m2,snoc,wi,sUF];simp
        . rw [xb4 J];exact h2.cons _
        . refine zL.2 ⟨fun z hz=>?_,h3⟩
          have U:cmpR a[i] b[k]<=0:=xta.ord.le_of_not hc;rcases zF.1 (h2.mem_iff.1 hz) with hz|hz
          . obtain ⟨j,hj,rfl⟩:=zo.1 hz;have O:i+1+j<a.length:=by simp at hj;omega
            rw [List.getElem_drop];exact xj4 sa (i:=i) (j:=i+1+j) (by omega) O
          . rw [xb4 q] at hz;rcases zB.1 hz with rfl|hz
            . exact U
            . obtain ⟨j,hj,rfl⟩:=zo.1 hz;have Q:k+1+j<b.length:=by simp at hj;omega
              rw [List.getElem_drop];exact xta.trans _ _ _ U (xj4 sb (i:=k) (j:=k+1+j) (by omega) Q)
    . have k1:¬ (k:Int)<(b.length:Int):=by omega
      obtain ⟨r,h1,h2,h3⟩:=ih (i+1) k (D++[a[i]]) (by omega) (by omega) hk (by simp;omega)
      refine ⟨a[i]::r,?_,?_,?_⟩
      . refine xfk (s':=((D++[a[i]]).length,((i+1:Nat):Int),(k:Int),List.map encR (D++[a[i]]))) ?_ (by rw [h1];simp)
        simp only [xaR,xcB,xbS,xbT,xbU,xb7,xb8,xb9,xca,  z8,xaP,i1,i2,k1,J,zm,zl,zS,if_false,if_true,zM,gR hx,cR0,sR0,Int.natCast_nonneg,zR,beq_self_eq_true,m1,m2,snoc,wi,sUF];simp
      . rw [xb4 J];exact h2.cons _
      . refine zL.2 ⟨fun z hz=>?_,h3⟩
        rw [zp (show b.length<=k by omega),zC] at h2
        obtain ⟨j,hj,rfl⟩:=zo.1 (h2.mem_iff.1 hz);have O:i+1+j<a.length:=by simp at hj;omega
        rw [List.getElem_drop];exact xj4 sa (i:=i) (j:=i+1+j) (by omega) O
  . have i1:¬ (i:Int)<(a.length:Int):=by omega
    have q:k<b.length:=by omega
    have k1:(k:Int)<(b.length:Int):=by omega
    have i2:((i:Int)==(a.length:Int))=true:=by simp;omega
    have hy:b[k]?=some b[k]:=by simp [q]
    obtain ⟨r,h1,h2,h3⟩:=ih i (k+1) (D++[b[k]]) (by omega) hi (by omega) (by simp;omega)
    refine ⟨b[k]::r,?_,?_,?_⟩
    . refine xfk (s':=((D++[b[k]]).length,(i:Int),((k+1:Nat):Int),List.map encR (D++[b[k]]))) ?_ (by rw [h1];simp)
      simp only [xaR,xcB,xbS,xbT,xbU,xb7,xb8,xb9,xca,  z8,xaP,i1,i2,k1,q,zm,zl,zS,if_false,if_true,zM,gR hy,cR0,sR0,Int.natCast_nonneg,zR,beq_self_eq_true,m1,m2,snoc,wk,sUF];simp
    . rw [xb4 q];exact (h2.cons _).trans List.perm_middle.symm
    . refine zL.2 ⟨fun z hz=>?_,h3⟩
      rw [zp (show a.length<=i by omega),zT] at h2
      obtain ⟨j,hj,rfl⟩:=zo.1 (h2.mem_iff.1 hz);have Q:k+1+j<b.length:=by simp at hj;omega
      rw [List.getElem_drop];exact xj4 sb (i:=k) (j:=k+1+j) (by omega) Q
theorem xEL (a b:List Row) (ha:a.length+b.length<=1048576) (J:∀ x,x∈a->x.length<=1048576) (q:∀ x,x∈b->x.length<=1048576) (sa:Sorted cmpR a) (sb:Sorted cmpR b) :
  ∃ r,xpY (a.map encR) (b.map encR) []=some (r.map encR)/\r.Perm (a++b)/\Sorted cmpR r:=by
 obtain ⟨r,h1,h2,h3⟩:=xEK a b ha J q sa sb _ 0 0 [] rfl (zP _) (zP _) rfl;simp only [zq,zT] at h1 h2;have h1':Iter (xaR (a.map encR) (b.map encR) []) (0,(0:Int),(0:Int),[])=some (r.length,r.map encR):=by
  rw [h2.length_eq,z7];exact h1
 refine ⟨r,?_,h2,h3⟩;unfold xpY xnf;simp only [xmk,xml,xmm,xmn,h1',sOO,sUF]
theorem xE5:∀ (f:Nat) (l:List Row),l.length<=2 ^ f->xKI l->∃ r,xbw (f+1) (List.map encR l) []=some (List.map encR r)/\r.Perm l/\Sorted (cmpR) r:=by
 intro f;induction f with
 | zero =>
  intro l hl hs;match l,hl with
  | [],_=>exact ⟨[],by simp [xbw,xbC,xdy,xaP,sUF],List.Perm.refl _,by simp [Sorted]⟩
  | [x],_ =>
   have hx:=hs.2 x (by simp)
   refine ⟨[x],?_,List.Perm.refl _,by simp [Sorted]⟩
   have m1:x.length*32<=140737488355328:=by omega
   have m2:x.length<=4611686018427387904:=by omega
   show xbC (xbw 0) (List.map encR [x]) []=_;simp [xbC,xdy,xhi,xhj,xdM,xhk,  xaP,xLj,encR,m1,m2,AV.toList,AV.cells,sUF];exact zh (by simp)
 | succ f ih =>
  intro l hl hs;by_cases h2:l.length<=1
  . match l,h2 with
    | [],_=>exact ⟨[],by show xbC (xbw (f+1)) (List.map encR []) []=_;simp [xbC,xdy,xaP,sUF],List.Perm.refl _,by simp [Sorted]⟩
    | [x],_ =>
     have hx:=hs.2 x (by simp)
     refine ⟨[x],?_,List.Perm.refl _,by simp [Sorted]⟩
     have m1:x.length*32<=140737488355328:=by omega
     have m2:x.length<=4611686018427387904:=by omega
     show xbC (xbw (f+1)) (List.map encR [x]) []=_;simp [xbC,xdy,xhi,xhj,xdM,xhk,  xaP,xLj,encR,m1,m2,AV.toList,AV.cells,sUF];exact zh (by simp)
  . have hp:2 ^ (f+1)=2*2 ^ f:=by rw [Nat.pow_succ];omega
    have q:=hs.1;obtain ⟨m,hm⟩:∃ m,m=l.length / 2:=⟨_,rfl⟩;have st:xKI (l.take m):=⟨by simp;omega,fun x hx=>hs.2 x (List.mem_of_mem_take hx)⟩
    have sd:xKI (l.drop m):=⟨by simp;omega,fun x hx=>hs.2 x (List.mem_of_mem_drop hx)⟩
    obtain ⟨r1,e1,p1,s1⟩:=ih (l.take m) (by simp;omega) st
    obtain ⟨r2,e2,p2,s2⟩:=ih (l.drop m) (by simp;omega) sd
    have l1:=p1.length_eq;have l2:=p2.length_eq;simp only [zr,zZ] at l1 l2;obtain ⟨r,a1,a3,a4⟩:=xEL r1 r2 (by omega) (fun x hx=>st.2 x (p1.mem_iff.1 hx)) (fun x hx=>sd.2 x (p2.mem_iff.1 hx)) s1 s2
    refine ⟨r,?_,a3.trans ((p1.append p2).trans (by rw [List.take_append_drop])),a4⟩
    have w:IntKind.i64.wrap ((l.length:Int).tdiv 2)=(m:Int):=by
     rw [Int.tdiv_eq_ediv_of_nonneg (by omega)]
     exact w64 (by omega) (by omega)
    have t1:List.take m (List.map encR l)=List.map encR (l.take m):=by simp
    have t2:List.take (l.length - m) (List.drop m (List.map encR l))=List.map encR (l.drop m):=by
     rw [zh (by simp)];simp
    have d0:((l.length:Int)==0)=false:=by simp;intro h;subst h;simp at h2
    have d1:((l.length:Int)==1)=false:=by simp;omega
    have d2:(m:Int)<=(l.length:Int):=by omega
    show xbC (xbw (f+1)) (List.map encR l) []=_;simp only [xbC,xdy,xhi,xhj,xdM,xhk,  z8,d0,d1,xae,w,zM,Nat.sub_zero,zq,t1,t2,e1,e2,zj,zg,xab,d2,zm,Int.natCast_nonneg,zR,a1,sUF]
theorem xGt (l:List Row) (h:xKI l):∃ r,xsm (l.map encR)=some (r.map encR)/\r.Perm l/\Sorted cmpR r:=by
 obtain ⟨r,e,p,s⟩:=(fun F (hF:20<=F)=>xE5 F l (xHD h.1 hF) h) 999 (by decide)
 refine ⟨r,?_,p,s⟩;unfold xsm xpX;rw [e];rfl
deriving instance DecidableEq for Fc
theorem cV0 (v:Val):((encV v).cells.getD 0 .top).toInt=v.k:=rfl
theorem cV1 (v:Val):((encV v).cells.getD 1 .top).toInt=v.i:=rfl
theorem cV2 (v:Val):((encV v).cells.getD 2 .top).toStr=v.t:=rfl
theorem lV (v:Val):((encV v).cells.length==3)=true:=rfl
theorem sV (v:Val):xLq [Sh.int .i64,Sh.int .i64,Sh.str] (encV v).cells 0=true:=rfl
theorem cmp0 (x y:Row):(cmpR x y==0)=decide (x=y):=by
 by_cases h:x=y
 . subst h;simp [xqC]
 . have:cmpR x y≠0:=fun e=>h (xn1 e)
   simp [h,this]
def atL (l:List Fc) (t:Int):List Row:=l.flatMap fun f=>if hasP f.p t=true then [f.r] else []
theorem xtQ (l:List Fc) (t:Int):(atL l t).length<=l.length:=by
 have:=xm8 (g:=fun f:Fc=>if hasP f.p t=true then [f.r] else []) (c:=1) l fun f _=>by split<;>simp
 unfold atL;omega
theorem xHa {l:List Fc} {t:Int} {r:Row} (h:r∈atL l t):∃ f,f∈l/\f.r=r/\hasP f.p t=true:=by
 obtain ⟨f,hf,h⟩:=y2.1 h;split at h
 . rename_i hp;simp only [zu] at h;exact ⟨f,hf,h.symm,hp⟩
 . simp at h
def Few (l:List Fc):Prop:=l.length<=1048576/\∀ f,f∈l->f.r.length<=1048576
theorem Few.at {l:List Fc} (h:Few l) (t:Int):xKI (atL l t):=⟨Nat.le_trans (xtQ l t) h.1,fun x hx=>by obtain ⟨f,hf,rfl,_⟩:=xHa hx;exact h.2 f hf⟩
end Go.Sim.M
end
