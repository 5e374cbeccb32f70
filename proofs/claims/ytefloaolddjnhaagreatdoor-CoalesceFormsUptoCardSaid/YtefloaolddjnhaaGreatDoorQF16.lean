/- Part 16 of the proof of the law. -/
import Derived.Test.YtefloaolddjnhaaGreatDoorQF15
import Derived.Test.YtefloaolddjnhaaGreatDoorCards
import Derived.Test.YtefloaolddjnhaaGreatDoorTie
import Derived.ChangeMaps5
import Derived.Deep.DeepHandedRow
import Derived.Stop.LaidErr
import Derived.Deep.DeepLaidRun
set_option linter.unusedVariables false
set_option linter.unusedSimpArgs false
set_option linter.unusedSectionVars false
noncomputable section
set_option maxRecDepth 10000
namespace Go.Sim
open Go.RowKit Go.Proofs Go.ChangeShapes Go.WideShapes Go.ChangeAt
theorem xLf {P:Program} {w:World} (h:w.ShapedOpen P) (hg:P.globals.size<P.low):P.low≤w.heap.size:=by
 obtain ⟨o,o₀,h1,_,_⟩:=h.2 (P.low - 1) (by omega) (by unfold Program.low at hg ⊢;omega)
 rcases Nat.lt_or_ge (P.low - 1) w.heap.size with h'|h'
 · omega
 · rw [Array.getElem?_eq_none h'] at h1;simp at h1
def xVP:DataW Unit→List Value
 | .lit (.int k n)=>[.int k n]
 | .agg l=>l.flatMap fun d=>match d with
  | .lit (.int k n)=>[.int k n]
  | .agg l'=>l'.flatMap fun d'=>match d' with
   | .lit (.int k n)=>[.int k n]
   | _=>[]
  | _=>[]
 | _=>[]
noncomputable def xVO (P:Program):List (String×DataW Unit)→Array Obj→Array Obj
 | [],h=>h
 | x::r,h=>xVO P r (match P.globalNamed x.1 with
  | some g=>h.modify g fun o=>match o with
   | .cells _ t frozen=>.cells (xVP x.2).toArray t frozen
   | o=>o
  | none=>h)
noncomputable def xVI (P:Program) (laid:List (String×DataW Unit)) (os:Os):World :=
 { World.holding P os ⟨#[],#[],[]⟩ with heap:=xVO P laid (World.holding P os ⟨#[],#[],[]⟩).heap }
theorem xRF {H:Type} {enc:TypeId×Value→H} {P:Program} {f:Func} {s:ChangeSpec} {W W':World} {args:Array Value} {ds:List (DataW H)} {before:List MemPlace} {tb:TypeId} (hs:s.vars=[])
  (hW:DataW.Whole enc P f.params.toList s.vars false W args.toList ds [] before) (hfn:(s.fn H ds).results=[.lit (.bool true)]∧(s.fn H ds).args=ds∧(s.fn H ds).vars=[]) (hrt:f.resultTypes=#[tb]) (htb:P.underlying tb=some .bool)
  (hargs:DataW.TrodAll enc P W' 0 (fun b=>decide (b<W.heap.size)) true f.params.toList args.toList ds before) (hb:Below W.heap.size W W'):s.post enc P f false true false false W args (.bool true) W':=by
 refine ⟨ds,[],before,[],before,[],hW,?_,?_,?_,hb.frame _,fun h=>by simp at h⟩
 · simp only [List.append_nil,hfn.1,hrt]
   exact trodAll_cons_mk (shut_bool htb _) trodAll_mk0
 · simpa [hfn.2.1] using hargs
 · simp only [List.append_nil,hfn.2.2,hs];rfl
theorem xBm {H:Type} {enc:TypeId×Value→H} {P:Program} {W W':World} (hl:laidOutB P=true) (hb:Below W.heap.size W W'):∀ {ts:List TypeId} {vs:List Value} {ds:List (DataW H)} {ps:List MemPlace},(ts.all fun t=>P.readableRec t&&decide (t<P.types.size))=true →
  DataW.TrodAll enc P W 0 (fun _=>true) true ts vs ds ps→DataW.TrodAll enc P W' 0 (fun b=>decide (b<W.heap.size)) true ts vs ds ps
 | [],vs,ds,ps,_,h=>by
  obtain ⟨rfl,rfl,rfl⟩:=trodAll_nil h
  exact trodAll_mk0
 | t::ts,vs,ds,ps,ht,h=>by
  have hlt:=h.lt
  obtain ⟨v,vs',d,ds',p,q,rfl,rfl,rfl,hd,hr⟩:=trodAll_cons h
  simp only [List.all_cons,Bool.and_eq_true,decide_eq_true_eq] at ht
  exact trodAll_cons_mk (Below.trod hl ht.1.1 ht.1.2 hd hb fun x hx=>hlt x (by simp [hx])) (xBm hl hb ht.2 hr)
section
variable {H : Type} {enc : TypeId × Value → H} {P : Program} {w : World} {base b n : Nat} {sp : Nat → Bool} {held : Bool} {v : Value} {d : DataW H} {ps : List MemPlace} {t : TypeId}
theorem xRC {T:Ty} (hf:flat P n t=some [T]) (hv:v.cells=#[v]) (hd:DataW.Trod enc P w b sp held t v d ps):∃ a,Rel w (fun _=>False) noBox v a∧OfTy T a∧∀ μ:DataW H→Nat,Meas μ→a.wt≤μ d:=by
 obtain ⟨fuel,hf'⟩:=hd
 rw [hv] at hf'
 obtain ⟨ra,ha,hw⟩:=xC6 n t [T] hf fuel _ _ hf'
 cases ha with
 | cons h ht r=>cases r with
  | nil=>exact ⟨_,h,ht,fun μ hμ=>by simpa [AV.wts] using hw μ hμ⟩
theorem xT4 {e:TypeId} {es:List Ty} (ht:P.underlying t=some (.slice e)) (hf:flat P n t=some [.slice es]) (hval:Value.okWide P w .any base t v) (hd:DataW.Trod enc P w b sp held t v d ps):∃ a,Rel w (fun _=>False) noBox v a∧OfTy (.slice es) a∧∀ μ:DataW H→Nat,Meas μ→a.wt≤μ d:=by
 obtain ⟨x,len,cap,rfl⟩:=okWide_slice ht hval
 exact xRC hf rfl hd
theorem xK5 {α:Type} {e:α→AV} {wf:α→Prop} {es:List Ty} (hv:∀ x:AV,x.cells.length=es.length→x=elemOf x.cells→(∀ j,j<es.length→OfTy (es.getD j .bool) (x.cells.getD j .top))→∃ a,x=e a∧wf a) {x:AV} (h:OfTy (.slice es) x) :
  ∃ l:List α,x=.list es.length (l.map e)∧l.length≤maxLen∧∀ a,a∈l→wf a:=by
 cases h with
 | slice _ xs hn hl hx =>
  have:∀ xs:List AV,(∀ x,x∈xs→∃ a,x=e a∧wf a)→∃ l:List α,xs=l.map e∧∀ a,a∈l→wf a:=by
   intro xs
   induction xs with
   | nil=>exact fun _=>⟨[],rfl,fun a h=>by simp at h⟩
   | cons x xs ih =>
    intro h
    obtain ⟨a,rfl,ha⟩:=h x (by simp)
    obtain ⟨l,rfl,hl⟩:=ih fun y hy=>h y (by simp [hy])
    exact ⟨a::l,rfl,fun b hb=>(List.mem_cons.1 hb).elim (fun he=>he▸ha) (fun hb=>hl b hb)⟩
  obtain ⟨l,rfl,hw⟩:=this xs fun x hx'=>hv x (hl x hx').1 (hl x hx').2 (fun j hj=>hx x j hx' hj)
  exact ⟨l,rfl,by simpa using hn,hw⟩
end
end Go.Sim
namespace Go.Sim
open Go.RowKit Go.Proofs Go.ChangeShapes Go.WideShapes Go.ChangeAt Go.Proofs.YtefloaolddjnhaaGreatDoor
theorem xVW:laidOutB Tryz.prog=true:=by kernel_rfl
theorem xV0:ownKnob Tryz.prog.godebug=none:=by kernel_rfl
theorem xVx:Tryz.prog.globals.size<Tryz.prog.low:=of_decide_eq_true (by kernel_rfl)
noncomputable def xVK:Nat:=(Tryz.prog.globalNamed "internal/strconv.uint64pow10").getD 0
theorem xRG:Rows.laid_internal_strconv_uint64pow10=(Lib.tabData .u64 Lib.pow10Tab:DataW Unit):=by kernel_rfl
theorem xUI {W:World} {r:List (String×DataW Unit)} {a b:String×DataW Unit} (hl:r=[a,b,("internal/strconv.uint64pow10",Rows.laid_internal_strconv_uint64pow10)]) (hp:(r.all fun x=>x.2.handleName?.isNone)=true) (hL:laidMetH Tryz.prog r W) (hsh:W.ShapedOpen Tryz.prog):ITryz W:=by
 rw [MakeChecks.laidMetH_plain _ _ _ hp] at hL
 subst hl
 refine ⟨hsh,xLf hsh xVx,?_⟩
 have h:=hL.tail.tail
 rw [xRG] at h
 exact Lib.tabIs_of_head (g:=xVK) (t:=(Tryz.prog.globals[xVK]?).map (·.type) |>.getD 0) (e:=128) (n:=20) (by kernel_rfl) (by kernel_rfl) (by kernel_rfl) (by kernel_rfl) (by kernel_rfl) (by kernel_rfl) h
def tyV:List Ty:=[.int .i64,.int .i64,.str]
def tyF:List Ty:=[.slice tyV,.int .i64,.int .i64]
theorem xPD:flat Tryz.prog 9 22=some [.slice tyF]:=by kernel_rfl
def I64 (n:Int):Prop:=(Lit.int .i64 n).wf=true
def M.Fc.wf (x:M.Fc):Prop:=M.Row.wf x.r∧I64 x.p.1∧I64 x.p.2
theorem xTa (x:AV) (hl:x.cells.length=tyV.length) (he:x=elemOf x.cells) (hx:∀ j,j<tyV.length→OfTy (tyV.getD j .bool) (x.cells.getD j .top)):∃ a,x=M.encV a∧M.Val.wf a:=by
 generalize x.cells=cs at *
 match cs,hl with
 | [c0,c1,c2],_ =>
  have h0:=hx 0 (by decide)
  have h1:=hx 1 (by decide)
  have h2:=hx 2 (by decide)
  change OfTy (.int .i64) c0 at h0
  change OfTy (.int .i64) c1 at h1
  change OfTy .str c2 at h2
  cases h0 with
  | int _ k hk=>cases h1 with
   | int _ i hi=>cases h2 with
    | str t ht=>exact ⟨⟨k,i,t⟩,he,hk,hi,ht⟩
theorem xS9 {x:AV} (h:OfTy (.slice tyV) x):∃ l:M.Row,x=M.encR l∧M.Row.wf l:=by
 obtain ⟨l,rfl,h1,h2⟩:=xK5 xTa h
 exact ⟨l,rfl,h1,h2⟩
theorem xS8 (x:AV) (hl:x.cells.length=tyF.length) (he:x=elemOf x.cells) (hx:∀ j,j<tyF.length→OfTy (tyF.getD j .bool) (x.cells.getD j .top)):∃ a,x=M.encF a∧M.Fc.wf a:=by
 generalize x.cells=cs at *
 match cs,hl with
 | [c0,c1,c2],_ =>
  have h0:=hx 0 (by decide)
  have h1:=hx 1 (by decide)
  have h2:=hx 2 (by decide)
  change OfTy (.slice tyV) c0 at h0
  change OfTy (.int .i64) c1 at h1
  change OfTy (.int .i64) c2 at h2
  obtain ⟨l,rfl,hw⟩:=xS9 h0
  cases h1 with
  | int _ k hk=>cases h2 with
   | int _ i hi=>exact ⟨⟨l,(k,i)⟩,he,hw,hk,hi⟩
section
variable {H : Type} {enc : TypeId × Value → H} {w : World} {base b : Nat} {sp : Nat → Bool} {held : Bool} {v : Value} {d : DataW H} {ps : List MemPlace}
theorem xPP (hval:Value.okWide Tryz.prog w .any base 22 v) (hd:DataW.Trod enc Tryz.prog w b sp held 22 v d ps):∃ l:List M.Fc,Rel w (fun _=>False) noBox v (.list 3 (l.map M.encF))∧(∀ μ:DataW H→Nat,Meas μ→(AV.list 3 (l.map M.encF)).wt≤μ d)∧(l.length≤maxLen∧∀ y,y∈l→y.wf):=by
 obtain ⟨a,h,hT,hB⟩:=xT4 Tryz.underlying22 xPD hval hd
 obtain ⟨l,rfl,hw⟩:=xK5 (es:=tyF) xS8 hT
 exact ⟨l,h,hB,hw⟩
end
theorem xtG {H:Type}:∀ l:List (DataW H),Rows.uptoBulkAll l=(l.map Rows.uptoBulk).sum
 | []=>rfl
 | d::r=>by simp [Rows.uptoBulkAll,xtG r]
theorem xRv {H:Type}:Meas (Rows.uptoBulk (H:=H)) :=
 ⟨fun l=>by cases l<;>simp [Rows.uptoBulk],fun s=>by simp [Rows.uptoBulk],by simp [Rows.uptoBulk],fun es sp=>by simp only [Rows.uptoBulk,xtG];omega,fun l=>by simp only [Rows.uptoBulk,xtG];omega⟩
end Go.Sim
end
noncomputable section
namespace Go.Sim.M
open Go.RowKit Go.Sim.Srt
def Strict {α:Type} (c:α→α→Int) (l:List α):Prop:=l.Pairwise fun x y=>c x y<0
theorem Cm.self {α:Type} {c:α→α→Int} (h:Cm c) (x:α):c x x=0:=by have:=h.swap x x;omega
theorem Strict.nodup {α:Type} {c:α→α→Int} (hc:Cm c) {l:List α} (h:Strict c l):l.Nodup :=
 List.Pairwise.imp (fun {x y} hxy he=>by subst he;rw [hc.self] at hxy;omega) h
theorem Strict.sorted {α:Type} {c:α→α→Int} {l:List α} (h:Strict c l):Sorted c l:=List.Pairwise.imp (fun hxy=>by omega) h
theorem xuT {α:Type} {c:α→α→Int} (hc:Cm c) (h0:∀ x y,c x y=0→x=y) {l m:List α} (hl:Strict c l) (hm:Strict c m) (h:∀ x,x∈l↔x∈m):l=m :=
 xBc hc h0 ((List.perm_ext_iff_of_nodup (hl.nodup hc) (hm.nodup hc)).2 h) hl.sorted hm.sorted
theorem xRZ {α:Type} {c:α→α→Int} (h0:∀ x y,c x y=0→x=y) {l:List α} (hs:Sorted c l) (hn:l.Nodup):Strict c l :=
 (hs.and hn).imp fun {x y} h=>by
  have:=h.1;have h2:=h.2
  by_cases he:c x y=0
  · exact absurd (h0 x y he) h2
  · omega
theorem xq8 (x y:Int):cmpI x y=if x<y then -1 else if y<x then 1 else 0:=rfl
theorem xVb:Cm cmpI:=⟨fun x y=>by
 simp only [xq8];repeat' split
 all_goals omega,fun x y z=>by
  simp only [xq8];repeat' split
  all_goals omega⟩
theorem xzf {p q:Per}:cmpP p q≤0↔p.1<q.1∨p.1=q.1∧p.2≤q.2:=by
 unfold cmpP orI
 simp only [xq8]
 repeat' split
 all_goals omega
theorem xwz (p q:Per):cmpP q p=-(cmpP p q):=by
 unfold cmpP orI
 simp only [xq8]
 repeat' split
 all_goals omega
theorem xSq:Cm cmpP:=⟨xwz,fun x y z h1 h2=>by rw [xzf] at *;omega⟩
theorem xwA (p q:Per) (h:cmpP p q=0):p=q:=by
 have h1:cmpP p q≤0:=by omega
 have h2:cmpP q p≤0:=by rw [xwz];omega
 rw [xzf] at h1 h2
 exact Prod.ext (by omega) (by omega)
theorem xQ1 (p q:Int) (h:cmpI p q=0):p=q:=by
 rw [xq8] at h;repeat' split at h
 all_goals omega
theorem xBf {A:List Per} (h:IsSpan A) (h0:∀ t,inL A t=false):A=[]:=xqk h xu6 fun t=>by rw [h0,xre]
structure IsLevs (N:Int→Nat) (P:List Per):Prop where
 sorted:Sorted cmpP P
 lev:∃ (A:Nat→List Per) (H:Nat),(∀ t,N t≤H)∧(∀ h,IsSpan (A h)∧∀ t,inL (A h) t=decide (h<N t))∧P.Perm ((List.range H).flatMap A)
theorem xrV (A:Nat→List Per) (H:Nat) (h0:∀ h,H≤h→A h=[]):∀ d,(List.range (H+d)).flatMap A=(List.range H).flatMap A
 | 0=>rfl
 | d+1=>by rw [←Nat.add_assoc,List.range_succ,List.flatMap_append,xrV A H h0 d,List.flatMap_cons,h0 (H+d) (by omega)];simp
theorem IsLevs.unique {N:Int→Nat} {P P':List Per} (h:IsLevs N P) (h':IsLevs N P'):P=P':=by
 obtain ⟨A,H,h1,h2,h3⟩:=h.lev
 obtain ⟨A',H',h1',h2',h3'⟩:=h'.lev
 obtain rfl:A=A':=funext fun k=>xqk (h2 k).1 (h2' k).1 fun t=>by rw [(h2 k).2,(h2' k).2]
 have nil:∀ K,(∀ t,N t≤K)→∀ k,K≤k→A k=[]:=fun K hK k hk=>xBf (h2 k).1 fun t=>by rw [(h2 k).2];have:=hK t;simp;omega
 refine xBc xSq xwA (h3.trans (List.Perm.trans (.of_eq ?_) h3'.symm)) h.sorted h'.sorted
 rcases Nat.le_total H H' with hle|hle
 · have:=xrV A H (nil H h1) (H' - H)
   rw [show H+(H' - H)=H' by omega] at this
   exact this.symm
 · have:=xrV A H' (nil H' h1') (H - H')
   rw [show H'+(H - H')=H by omega] at this
   exact this
theorem IsLevs.valid {N:Int→Nat} {P:List Per} (h:IsLevs N P):∀ p,p∈P→pv p=true:=fun p hp=>by
 obtain ⟨A,H,h1,h2,h3⟩:=h.lev
 obtain ⟨k,_,hk⟩:=List.mem_flatMap.1 (h3.mem_iff.1 hp)
 exact (h2 k).1.1 p hk
theorem xTX {A:List Per} {N:Int→Nat} {k:Nat} (hs:IsSpan A) (hN:∀ t,inL A t=decide (k<N t)) {p:Per} (hp:p∈A):(∀ t,p.1≤t→t<p.2→k<N t)∧N (p.1 - 1)≤k∧N p.2≤k:=by
 have hv:=xeO.1 (hs.1 p hp)
 refine ⟨fun t h1 h2=>?_,?_,?_⟩
 · have:inL A t=true:=xjV.2 ⟨p,hp,hs.1 p hp,h1,h2⟩
   rw [hN] at this;simpa using this
 · have:inL A (p.1 - 1)=false:=by
    cases hc:inL A (p.1 - 1) with
    | false=>rfl
    | true =>
     obtain ⟨q,hq,hqv,h1,h2⟩:=xjV.1 hc
     have hne:p≠q:=fun e=>by subst e;omega
     rcases pairwise_mem hs.2 hp hq hne with h|h<;>omega
   rw [hN] at this;simpa using this
 · have:inL A p.2=false:=by
    cases hc:inL A p.2 with
    | false=>rfl
    | true =>
     obtain ⟨q,hq,hqv,h1,h2⟩:=xjV.1 hc
     have hne:p≠q:=fun e=>by subst e;omega
     rcases pairwise_mem hs.2 hp hq hne with h|h<;>omega
   rw [hN] at this;simpa using this
where
 pairwise_mem {l:List Per} (h:l.Pairwise fun p q=>p.2<q.1) {p q:Per} (hp:p∈l) (hq:q∈l) (hne:p≠q):p.2<q.1∨q.2<p.1:=by
  induction l with
  | nil=>simp at hp
  | cons x l ih =>
   obtain ⟨h1,h2⟩:=List.pairwise_cons.1 h
   rcases List.mem_cons.1 hp with e1|hp1
   · rcases List.mem_cons.1 hq with e2|hq1
     · exact absurd (e1.trans e2.symm) hne
     · exact .inl (e1▸h1 q hq1)
   · rcases List.mem_cons.1 hq with e2|hq1
     · exact .inr (e2▸h1 p hp1)
     · exact ih h2 hp1 hq1
def cnt (l:List Fc) (r:Row) (t:Int):Nat:=l.countP fun f=>decide (f.r=r)&&hasP f.p t
def xVs (l:List Fc) (R:List Row):Prop:=Strict cmpR R∧∀ r,r∈R↔∃ f,f∈l∧f.r=r∧pv f.p=true
theorem xOy {l:List Fc} {r:Row} {t:Int}:0<cnt l r t↔∃ f,f∈l∧f.r=r∧hasP f.p t=true:=by
 unfold cnt
 rw [List.countP_pos_iff]
 simp
theorem xR1 {p:Per} (h:pv p=true):hasP p p.1=true:=by
 have:=xeO.1 h
 exact xeM.2 ⟨h,by omega,by omega⟩
theorem xKE {p:Per} {t:Int} (h:hasP p t=true):pv p=true:=(xeM.1 h).1
theorem xGO {l:List Fc} {r:Row}:(∃ f,f∈l∧f.r=r∧pv f.p=true)↔∃ t,0<cnt l r t:=by
 constructor
 · rintro ⟨f,h1,h2,h3⟩
   exact ⟨f.p.1,xOy.2 ⟨f,h1,h2,xR1 h3⟩⟩
 · rintro ⟨t,h⟩
   obtain ⟨f,h1,h2,h3⟩:=xOy.1 h
   exact ⟨f,h1,h2,xKE h3⟩
theorem xVs.unique {l l':List Fc} {R R':List Row} (h:xVs l R) (h':xVs l' R') (hc:∀ r t,cnt l r t=cnt l' r t):R=R' :=
 xuT xyc (fun _ _=>xq9) h.1 h'.1 fun r=>by rw [h.2,h'.2,xGO,xGO];simp only [hc]
def xVk (R:List Row) (L:Row→List Per):List Fc:=R.flatMap fun r=>(L r).map fun p=>⟨r,p⟩
theorem xHm (a b:List Fc) (r:Row) (t:Int):cnt (a++b) r t=cnt a r t+cnt b r t:=List.countP_append
theorem xSu {a b:List Fc} (h:a.Perm b) (r:Row) (t:Int):cnt a r t=cnt b r t:=h.countP_eq _
def xVt (l B:List Fc):Prop:=∃ R L,xVs l R∧(∀ r,r∈R→IsLevs (cnt l r) (L r))∧B=xVk R L
def xVD (l B:List Fc):Prop:=∃ R L,xVs l R∧(∀ r,r∈R→IsSpan (L r)∧∀ t,inL (L r) t=decide (0<cnt l r t))∧B=xVk R L
theorem xFB {R:List Row} {L L':Row→List Per} (h:∀ r,r∈R→L r=L' r):xVk R L=xVk R L':=by
 unfold xVk
 induction R with
 | nil=>rfl
 | cons r R ih=>rw [List.flatMap_cons,List.flatMap_cons,h r (by simp),ih fun x hx=>h x (by simp [hx])]
theorem xVt.unique {l l' B B':List Fc} (h:xVt l B) (h':xVt l' B') (hc:∀ r t,cnt l r t=cnt l' r t):B=B':=by
 obtain ⟨R,L,h1,h2,rfl⟩:=h
 obtain ⟨R',L',h1',h2',rfl⟩:=h'
 obtain rfl:=h1.unique h1' hc
 refine xFB fun r hr=>(h2 r hr).unique ?_
 have:=h2' r hr
 rwa [←show cnt l r=cnt l' r from funext fun t=>hc r t] at this
theorem xVD.unique {l l' B B':List Fc} (h:xVD l B) (h':xVD l' B') (hc:∀ r t,cnt l r t=cnt l' r t):B=B':=by
 obtain ⟨R,L,h1,h2,rfl⟩:=h
 obtain ⟨R',L',h1',h2',rfl⟩:=h'
 obtain rfl:=h1.unique h1' hc
 exact xFB fun r hr=>xqk (h2 r hr).1 (h2' r hr).1 fun t=>by rw [(h2 r hr).2,(h2' r hr).2,hc]
theorem xVs.zero {l:List Fc} {R:List Row} (h:xVs l R) {r:Row} (hr:r∉R) (t:Int):cnt l r t=0:=by
 cases hc:cnt l r t with
 | zero=>rfl
 | succ n=>exact absurd ((h.2 r).2 (xGO.2 ⟨t,by omega⟩)) hr
theorem xKy {R:List Row} {L:Row→List Per} {f:Fc} (h:f∈xVk R L):f.r∈R∧f.p∈L f.r:=by
 obtain ⟨r,hr,h⟩:=List.mem_flatMap.1 h
 obtain ⟨p,hp,rfl⟩:=List.mem_map.1 h
 exact ⟨hr,hp⟩
theorem xVt.valid {l B:List Fc} (h:xVt l B) {f:Fc} (hf:f∈B):pv f.p=true∧∃ g,g∈l∧g.r=f.r:=by
 obtain ⟨R,L,h1,h2,rfl⟩:=h
 obtain ⟨a,b⟩:=xKy hf
 refine ⟨(h2 _ a).valid _ b,?_⟩
 obtain ⟨g,g1,g2,_⟩:=(h1.2 _).1 a
 exact ⟨g,g1,g2⟩
def psOf (l:List Fc) (r:Row):List Per:=(l.filter fun f=>decide (f.r=r)&&pv f.p).map (·.p)
theorem xC9 (l:List Fc) (r:Row) (t:Int):(psOf l r).countP (hasP · t)=cnt l r t:=by
 unfold psOf cnt
 rw [List.countP_map,List.countP_filter]
 refine List.countP_congr fun f _=>?_
 simp only [Function.comp,Bool.and_eq_true,decide_eq_true_eq]
 constructor
 · rintro ⟨h1,h2,_⟩;exact ⟨h2,h1⟩
 · rintro ⟨h1,h2⟩;exact ⟨h2,h1,xKE h2⟩
theorem xSP {l:List Fc} {r:Row}:∀ p,p∈psOf l r→pv p=true:=fun p hp=>by
 obtain ⟨f,hf,rfl⟩:=List.mem_map.1 hp
 have:=List.mem_filter.1 hf
 simp only [Bool.and_eq_true] at this
 exact this.2.2
theorem xHT (l:List Fc) (r:Row):(psOf l r).length≤l.length:=by unfold psOf;rw [List.length_map];exact List.length_filter_le _ _
theorem xPB {ps:List Per} {t:Int} {k:Nat} (h1:k<ps.countP (hasP · t)) (h2:ps.countP (hasP · (t - 1))≤k):t∈ps.map (·.1):=by
 have:∃ p,p∈ps∧hasP p t=true∧hasP p (t - 1)=false:=by
  refine Classical.byContradiction fun hn=>?_
  have:ps.countP (hasP · t)≤ps.countP (hasP · (t - 1)):=List.countP_mono_left fun p hp h=>by
   cases hc:hasP p (t - 1) with
   | true=>rfl
   | false=>exact absurd ⟨p,hp,h,hc⟩ hn
  omega
 obtain ⟨p,hp,a,b⟩:=this
 obtain ⟨hv,x,y⟩:=xeM.1 a
 have:¬ p.1≤t - 1:=fun h=>by rw [xeM.2 ⟨hv,h,by omega⟩] at b;cases b
 exact List.mem_map.2 ⟨p,hp,by omega⟩
theorem xJe {ps A:List Per} {k:Nat} (hs:IsSpan A) (hN:∀ t,inL A t=decide (k<ps.countP (hasP · t))):A.length≤ps.length:=by
 have hn:(A.map (·.1)).Nodup:=by
  unfold List.Nodup
  rw [List.pairwise_map]
  refine List.Pairwise.imp_of_mem (fun {p q} hp hq h=>?_) hs.2
  have:=xeO.1 (hs.1 p hp);omega
 have:(A.map (·.1)) ⊆ ps.map (·.1):=fun t ht=>by
  obtain ⟨p,hp,rfl⟩:=List.mem_map.1 ht
  obtain ⟨a,b,_⟩:=xTX (N:=fun t=>ps.countP (hasP · t)) hs hN hp
  have hv:=xeO.1 (hs.1 p hp)
  exact xPB (a p.1 (Int.le_refl _) (by omega)) b
 have:=hn.length_le_of_subset this
 simpa using this
theorem IsLevs.len {ps P:List Per} (h:IsLevs (fun t=>ps.countP (hasP · t)) P):P.length≤ps.length*ps.length:=by
 obtain ⟨A,H,h1,h2,h3⟩:=h.lev
 have hx:P.length=((List.range ps.length).flatMap A).length:=by
  rw [h3.length_eq]
  have nil:∀ k,ps.length≤k→A k=[]:=fun k hk=>xBf (h2 k).1 fun t=>by
   rw [(h2 k).2]
   have:=List.countP_le_length (p:=(hasP · t)) (l:=ps)
   simp;omega
  have nil2:∀ k,H≤k→A k=[]:=fun k hk=>xBf (h2 k).1 fun t=>by
   rw [(h2 k).2];have:=h1 t;simp;omega
  rcases Nat.le_total H ps.length with hle|hle
  · have:=xrV A H nil2 (ps.length - H)
    rw [show H+(ps.length - H)=ps.length by omega] at this
    rw [this]
  · have:=xrV A ps.length nil (H - ps.length)
    rw [show ps.length+(H - ps.length)=H by omega] at this
    rw [this]
 rw [hx]
 have:=xlT (g:=A) (c:=ps.length) (List.range ps.length) fun k _=>xJe (h2 k).1 (h2 k).2
 simpa using this
theorem xCx {L:Row→List Per}:∀ {R:List Row} {l:List Fc},R.Nodup→(∀ r,r∈R→(L r).length≤(psOf l r).length*(psOf l r).length)→(xVk R L).length≤l.length*l.length
 | [],l,_,_=>by simp [xVk]
 | r::R,l,hn,h=>by
  obtain ⟨n1,n2⟩:=List.nodup_cons.1 hn
  have e:xVk (r::R) L=((L r).map fun p=>(⟨r,p⟩:Fc))++xVk R L:=by simp [xVk]
  let l2:=l.filter fun f=>!decide (f.r=r)
  have hps:∀ r',r'∈R→psOf l2 r'=psOf l r':=fun r' hr'=>by
   have hne:r'≠r:=fun e=>n1 (e▸hr')
   unfold psOf
   simp only [l2,List.filter_filter]
   congr 1
   refine List.filter_congr fun f _=>?_
   by_cases hf:f.r=r'
   · have:¬ f.r=r:=fun e=>hne (hf▸e)
     simp [hf,hne]
   · simp [hf]
  have ih:=xCx (L:=L) (l:=l2) n2 fun r' hr'=>by rw [hps r' hr'];exact h r' (by simp [hr'])
  have h1:=h r (by simp)
  have hl:(psOf l r).length+l2.length≤l.length:=by
   unfold psOf
   rw [List.length_map]
   have:=List.length_eq_countP_add_countP (fun f:Fc=>decide (f.r=r)) (l:=l)
   have a1:(l.filter fun f=>decide (f.r=r)&&pv f.p).length≤l.countP fun f=>decide (f.r=r):=by
    rw [←List.countP_eq_length_filter]
    exact List.countP_mono_left fun f _ hf=>by simp only [Bool.and_eq_true] at hf;exact hf.1
   have a2:l2.length=l.countP fun f=>¬ decide (f.r=r)=true:=by
    rw [List.countP_eq_length_filter];simp [l2]
   omega
  rw [e,List.length_append,List.length_map]
  have m1:=Nat.mul_le_mul hl hl
  have m2:(psOf l r).length*(psOf l r).length+l2.length*l2.length≤((psOf l r).length+l2.length)*((psOf l r).length+l2.length):=by
   rw [Nat.add_mul,Nat.mul_add,Nat.mul_add];omega
  omega
theorem xVt.len {l B:List Fc} (h:xVt l B):B.length≤l.length*l.length:=by
 obtain ⟨R,L,h1,h2,rfl⟩:=h
 refine xCx (h1.1.nodup xyc) fun r hr=>?_
 have:=h2 r hr
 rw [show cnt l r=fun t=>(psOf l r).countP (hasP · t) from funext fun t=>(xC9 l r t).symm] at this
 exact this.len
end Go.Sim.M
end
noncomputable section
namespace Go.Sim.M
open Go.RowKit Go.Sim.Srt
abbrev Asc (l:List Int):Prop:=l.Pairwise fun x y=>x<y
def insI:List Int→Int→List Int
 | [],n=>[n]
 | x::l,n=>if x<n then x::insI l n else if n<x then n::x::l else x::l
theorem xqP:∀ (l:List Int) (n x:Int),x∈insI l n↔x=n∨x∈l
 | [],n,x=>by simp [insI]
 | y::l,n,x=>by
  unfold insI
  split
  · rw [List.mem_cons,xqP l n x,List.mem_cons]
    constructor<;>rintro (h|h|h)<;>simp [h]
  · split
    · simp
    · have:y=n:=by omega
      subst this;simp
theorem xti:∀ {l:List Int},Asc l→∀ n,Asc (insI l n)
 | [],_,n=>by simp [insI,Asc]
 | y::l,h,n=>by
  obtain ⟨h1,h2⟩:=List.pairwise_cons.1 h
  unfold insI
  split
  · refine List.pairwise_cons.2 ⟨fun z hz=>?_,xti h2 n⟩
    rcases (xqP l n z).1 hz with rfl|hz
    · assumption
    · exact h1 z hz
  · split
    · rename_i hn
      refine List.pairwise_cons.2 ⟨fun z hz=>?_,h⟩
      rcases List.mem_cons.1 hz with rfl|hz
      · exact hn
      · have:=h1 z hz;omega
    · exact h
theorem xon:∀ (l:List Int) (n:Int),(insI l n).length≤l.length+1
 | [],n=>by simp [insI]
 | y::l,n=>by
  unfold insI
  have:=xon l n
  repeat' split
  all_goals simp
  all_goals omega
theorem xGg (n:Int):∀ l:List Int,∃ m,m≤l.length∧(∀ k (h:k<m) (h2:k<l.length),l[k]<n)∧(∀ h:m<l.length,¬ l[m]<n)∧insI l n=l.take m++(if h:m<l.length then (if n<l[m] then n::l.drop m else l.drop m) else [n])
 | []=>⟨0,Nat.le_refl _,fun k h=>by omega,fun h=>by simp at h,by simp [insI]⟩
 | y::l=>by
  by_cases hy:y<n
  · obtain ⟨m,h1,h2,h3,h4⟩:=xGg n l
    refine ⟨m+1,by simpa using h1,fun k h hk=>?_,fun h=>?_,?_⟩
    · cases k with
      | zero=>simpa using hy
      | succ k=>simpa using h2 k (by omega) (by simpa using hk)
    · simpa using h3 (by simpa using h)
    · unfold insI
      rw [if_pos hy,h4]
      by_cases hm:m<l.length<;>simp [hm]
  · refine ⟨0,Nat.zero_le _,fun k h=>by omega,fun _=>by simpa using hy,?_⟩
    unfold insI
    rw [if_neg hy]
    by_cases h:n<y<;>simp [h]
theorem xPt {l m:List Int} (hl:Asc l) (hm:Asc m) (h:∀ x,x∈l↔x∈m):l=m :=
 xuT xVb xQ1 (hl.imp fun {x y} h=>by rw [xq8,if_pos h];omega) (hm.imp fun {x y} h=>by rw [xq8,if_pos h];omega) h
structure StepI (N:Int→Int) (T:Int) (S:List Per):Prop where
 asc:S.Pairwise fun a b=>a.1<b.1
 mem:∀ s,s∈S↔0≤s.1∧s.1<T∧s.2=N s.1∧(s.1=0∨N (s.1 - 1)≠s.2)
 last:0<T→∃ S' f,S=S'++[(f,N (T - 1))]
theorem StepI.nil (N:Int→Int):StepI N 0 []:=⟨List.Pairwise.nil,fun s=>by simp;omega,fun h=>by omega⟩
def putS (S:List Per) (f n:Int):List Per:=match S.getLast? with
 | some s=>if s.2=n then S else S++[(f,n)]
 | none=>S++[(f,n)]
theorem StepI.unique {N:Int→Int} {T:Int} {S S':List Per} (h:StepI N T S) (h':StepI N T S'):S=S' :=
 xuT xSq xwA (h.asc.imp fun {x y} hxy=>by
  have h1:cmpP x y≤0:=xzf.2 (.inl hxy)
  by_cases h0:cmpP x y=0
  · have:=xwA x y h0;subst this;omega
  · omega) (h'.asc.imp fun {x y} hxy=>by
  have h1:cmpP x y≤0:=xzf.2 (.inl hxy)
  by_cases h0:cmpP x y=0
  · have:=xwA x y h0;subst this;omega
  · omega) fun s=>by rw [h.mem,h'.mem]
theorem StepI.put {N:Int→Int} {T T':Int} {S:List Per} (h:StepI N T S) (h0:0≤T) (hlt:T<T') (hc:∀ t,T≤t→t<T'→N t=N T):StepI N T' (putS S T (N T)):=by
 rcases Int.lt_or_eq_of_le h0 with hp|hz
 · obtain ⟨S',f,rfl⟩:=h.last hp
   unfold putS
   rw [List.getLast?_append]
   simp only [List.getLast?_singleton,Option.some_or]
   by_cases he:N (T - 1)=N T
   · rw [if_pos he]
     refine ⟨h.asc,fun s=>?_,fun _=>⟨S',f,by rw [he,hc (T' - 1) (by omega) (by omega)]⟩⟩
     rw [h.mem]
     constructor
     · rintro ⟨a,b,c,d⟩;exact ⟨a,by omega,c,d⟩
     · rintro ⟨a,b,c,d⟩
       refine ⟨a,?_,c,d⟩
       rcases Int.lt_or_le s.1 T with hs|hs
       · exact hs
       · exfalso
         have e1:=hc s.1 hs b
         rcases d with d|d
         · omega
         · rcases Int.lt_or_eq_of_le hs with h2|h2
           · have e2:=hc (s.1 - 1) (by omega) (by omega)
             exact d (by rw [e2,c,e1])
           · rw [←h2] at d c;exact d (by rw [he,c])
   · rw [if_neg he]
     refine ⟨?_,fun s=>?_,fun _=>⟨_,T,by rw [hc (T' - 1) (by omega) (by omega)]⟩⟩
     · rw [List.pairwise_append]
       refine ⟨h.asc,List.pairwise_singleton _ _,fun a ha b hb=>?_⟩
       simp only [List.mem_singleton] at hb
       subst hb
       exact ((h.mem a).1 ha).2.1
     · rw [List.mem_append,h.mem,List.mem_singleton]
       constructor
       · rintro (⟨a,b,c,d⟩|rfl)
         · exact ⟨a,by omega,c,d⟩
         · exact ⟨h0,hlt,rfl,.inr he⟩
       · rintro ⟨a,b,c,d⟩
         rcases Int.lt_or_le s.1 T with hs|hs
         · exact .inl ⟨a,hs,c,d⟩
         · right
           have e1:=hc s.1 hs b
           rcases Int.lt_or_eq_of_le hs with h2|h2
           · exfalso
             have e2:=hc (s.1 - 1) (by omega) (by omega)
             rcases d with d|d
             · omega
             · exact d (by rw [e2,c,e1])
           · exact Prod.ext h2.symm (by rw [c,e1])
 · subst hz
   have hS:S=[]:=by
    rw [List.eq_nil_iff_forall_not_mem]
    intro s hs
    have:=(h.mem s).1 hs
    omega
   subst hS
   refine ⟨by simp [putS],fun s=>?_,fun _=>⟨[],0,by simp [putS];exact (hc (T' - 1) (by omega) (by omega)).symm⟩⟩
   simp only [putS,List.getLast?_nil,List.nil_append,List.mem_singleton]
   constructor
   · rintro rfl;exact ⟨Int.le_refl _,hlt,rfl,.inl rfl⟩
   · rintro ⟨a,b,c,d⟩
     have e1:=hc s.1 a b
     rcases Int.lt_or_eq_of_le a with h2|h2
     · exfalso
       have e2:=hc (s.1 - 1) (by omega) (by omega)
       rcases d with d|d
       · omega
       · exact d (by rw [e2,c,e1])
     · exact Prod.ext h2.symm (by rw [c,e1])
theorem xM3 (S:List Per) (f n:Int):(putS S f n).length≤S.length+1:=by
 unfold putS;repeat' split
 all_goals simp
def sumC (l:List Cnt) (t:Int):Int:=(l.map fun c=>if hasP c.1 t=true then c.2 else 0).sum
theorem xrj (c:Cnt) (l:List Cnt) (t:Int):sumC (c::l) t=(if hasP c.1 t=true then c.2 else 0)+sumC l t:=by simp [sumC]
theorem xOi (a b:List Cnt) (t:Int):sumC (a++b) t=sumC a t+sumC b t:=by simp [sumC]
theorem xNp (t:Int):sumC [] t=0:=rfl
theorem xIG {T T':Int}:∀ {l:List Cnt},(∀ c,c∈l→pv c.1=true→¬ (T<c.1.1∧c.1.1<T')∧¬ (T<c.1.2∧c.1.2<T'))→∀ t,T≤t→t<T'→sumC l t=sumC l T
 | [],_,t,_,_=>rfl
 | c::l,h,t,h1,h2=>by
  rw [xrj,xrj,xIG (fun c hc=>h c (by simp [hc])) t h1 h2]
  congr 2
  cases hv:pv c.1 with
  | false=>simp [hasP,hv]
  | true =>
   have:=h c (by simp) hv
   simp only [hasP,hv,Bool.true_and,Bool.and_eq_true,decide_eq_true_eq,eq_iff_iff]
   omega
theorem xNo (B:Int) (hB:0≤B) (t:Int):∀ l:List Cnt,(∀ c,c∈l→-B≤c.2∧c.2≤B)→-(B*l.length)≤sumC l t∧sumC l t≤B*l.length
 | [],_=>by simp [xNp]
 | c::l,h=>by
  have ih:=xNo B hB t l fun c hc=>h c (by simp [hc])
  have hc:=h c (by simp)
  rw [xrj,List.length_cons,show B*((l.length+1:Nat):Int)=B*(l.length:Int)+B by rw [Int.natCast_add,Int.mul_add];simp]
  split<;>omega
theorem xK3 (ps:List Per) (t:Int):sumC (ps.map fun p=>(p,(1:Int))) t=(ps.countP (hasP · t):Nat):=by
 induction ps with
 | nil=>rfl
 | cons p ps ih =>
  rw [List.map_cons,xrj,ih,List.countP_cons]
  split<;>simp_all<;>omega
end Go.Sim.M
end
noncomputable section
set_option maxRecDepth 100000
namespace Go.Sim.M
open Go.RowKit Go.Sim.Srt
theorem xvw (l:List Per) (hl:l.length≤1048576):Iter (xby (l.map encP) ((l.length:Nat):Int)) ((0:Nat),(0:Int),[])=some ((l.flatMap (fun (f:Per)=>[(f,(1:Int))])).length,(l.flatMap (fun (f:Per)=>[(f,(1:Int))])).map encC):=by
 refine xoq l (fun (f:Per)=>[(f,(1:Int))]) encC 1 (fun f hf=>?_) (fun n h D hD=>?_) (fun D=>?_)
 · simp
 · have h1:(n:Int)<(l.length:Int):=by omega
   have m1:(D.length+1)*24≤140737488355328:=by omega
   have m2:D.length+1≤4611686018427387904:=by omega
   have gf:(l.map encP).getD n .top=encP l[n]:=xaH _ _ _ h
   simp only [xby,xgt,List.length_map,xai,xaj,decide_true,decide_false,Bool.and_true,Bool.true_and,Bool.not_true,Bool.not_false,Int.toNat_natCast,Int.natCast_nonneg,Option.isSome_some,Option.getD_some,beq_self_eq_true,Nat.zero_add,Nat.sub_zero,h,h1,gf,cP0,cP1,lP,sP,sP0,sP1,m1,m2,xVi (n:=n) (by omega)]
   simp [encC]
 · simp only [xby,xgt,List.length_map,Int.lt_irrefl,decide_false,xaj]
theorem xPC (l:List Per) (hl:l.length≤1048576):xdj (l.map encP)=xoZ ((l.map fun p=>(p,(1:Int))).map encC):=by
 have h:=xvw l hl
 rw [xVR] at h
 unfold xdj xkX xnN xnO xnP xnQ
 rw [List.length_map,h]
 simp only [List.drop_zero,List.take_of_length_le,Nat.zero_add,List.length_map,Nat.le_refl,decide_true,Bool.and_true,xai,Option.isSome_some,Option.getD_some,xMm]
theorem xDK (l:List Fc) (hl:l.length≤1048576):Iter (xdb (l.map encF)) ((0:Nat),(0:Int),[])=some ((l.flatMap (fun (f:Fc)=>if pv f.p=true then [f.r] else [])).length,(l.flatMap (fun (f:Fc)=>if pv f.p=true then [f.r] else [])).map encR):=by
 refine xoq l (fun (f:Fc)=>if pv f.p=true then [f.r] else []) encR 1 (fun f hf=>?_) (fun n h D hD=>?_) (fun D=>?_)
 · cases hc0:(pv (f).p)<;>simp [hc0]
 · have h1:(n:Int)<(l.length:Int):=by omega
   have m1:(D.length+1)*24≤140737488355328:=by omega
   have m2:D.length+1≤4611686018427387904:=by omega
   have gf:(l.map encF).getD n .top=encF l[n]:=xaH _ _ _ h
   simp only [xdb,xlj,List.length_map,xai,xaj,decide_true,decide_false,Bool.and_true,Bool.true_and,Bool.not_true,Bool.not_false,Int.toNat_natCast,Int.natCast_nonneg,Option.isSome_some,Option.getD_some,beq_self_eq_true,Nat.zero_add,Nat.sub_zero,h,h1,gf,cF0,cF1,cF2,sF0,sF1,sF2,lF,sF12,sF02,xwY,m1,m2,xVi (n:=n) (by omega)]
   cases hc0:(pv (l[n]).p)<;>simp [encR,xai,xaj,encR,hc0]
 · simp only [xdb,xlj,List.length_map,Int.lt_irrefl,decide_false,xaj]
theorem xAV (row:Row) (l:List Fc) (hl:l.length≤1048576) (hr:∀ f,f∈l→f.r.length≤maxLen):Iter (xcE (l.map encF) (row.map encV)) ((0:Nat),(0:Int),[])=some ((l.flatMap (fun (f:Fc)=>if cmpR f.r row==0 then [(f.p,(1:Int))] else [])).length,(l.flatMap (fun (f:Fc)=>if cmpR f.r row==0 then [(f.p,(1:Int))] else [])).map encC):=by
 refine xoq l (fun (f:Fc)=>if cmpR f.r row==0 then [(f.p,(1:Int))] else []) encC 1 (fun f hf=>?_) (fun n h D hD=>?_) (fun D=>?_)
 · cases hc0:(cmpR (f).r row==0)<;>simp [hc0]
 · have h1:(n:Int)<(l.length:Int):=by omega
   have m1:(D.length+1)*24≤140737488355328:=by omega
   have m2:D.length+1≤4611686018427387904:=by omega
   have gf:(l.map encF).getD n .top=encF l[n]:=xaH _ _ _ h
   have hm:=hr l[n] (List.getElem_mem h)
   simp only [xcE,xjp,List.length_map,xai,xaj,decide_true,decide_false,Bool.and_true,Bool.true_and,Bool.not_true,Bool.not_false,Int.toNat_natCast,Int.natCast_nonneg,Option.isSome_some,Option.getD_some,beq_self_eq_true,Nat.zero_add,Nat.sub_zero,h,h1,gf,cF0,cF1,cF2,sF0,sF1,sF2,lF,sF12,sF02,xvl _ _ hm,m1,m2,xVi (n:=n) (by omega)]
   cases hc0:(cmpR (l[n]).r row==0)<;>simp [encC,xai,xaj,encR,hc0]
 · simp only [xcE,xjp,List.length_map,Int.lt_irrefl,decide_false,xaj]
theorem xAX (row:Row) (l:List Per) (hl:l.length≤1048576):Iter (xbX (row.map encV) (l.map encP)) ((0:Nat),(0:Int),[])=some ((l.flatMap (fun (f:Per)=>[(⟨row,f⟩:Fc)])).length,(l.flatMap (fun (f:Per)=>[(⟨row,f⟩:Fc)])).map encF):=by
 refine xoq l (fun (f:Per)=>[(⟨row,f⟩:Fc)]) encF 1 (fun f hf=>?_) (fun n h D hD=>?_) (fun D=>?_)
 · simp
 · have h1:(n:Int)<(l.length:Int):=by omega
   have m1:(D.length+1)*40≤140737488355328:=by omega
   have m2:D.length+1≤4611686018427387904:=by omega
   have gf:(l.map encP).getD n .top=encP l[n]:=xaH _ _ _ h
   simp only [xbX,xjq,List.length_map,xai,xaj,decide_true,decide_false,Bool.and_true,Bool.true_and,Bool.not_true,Bool.not_false,Int.toNat_natCast,Int.natCast_nonneg,Option.isSome_some,Option.getD_some,beq_self_eq_true,Nat.zero_add,Nat.sub_zero,h,h1,gf,cP0,cP1,lP,sP,sP0,sP1,m1,m2,xVi (n:=n) (by omega)]
   simp [encF]
 · simp only [xbX,xjq,List.length_map,Int.lt_irrefl,decide_false,xaj]
end Go.Sim.M
end
noncomputable section
set_option maxRecDepth 100000
namespace Go.Sim.M
open Go.RowKit Go.Sim.Srt
theorem xUH (l:List Int) (n:Int) (hl:l.length≤1048576) (m:Nat) (hm:m≤l.length) (h1:∀ k (h:k<m) (h2:k<l.length),l[k]<n) (h2:∀ h:m<l.length,¬ l[m]<n) :
  Iter (xbT (l.map encN) n) ((0:Nat),(0:Int),[])=some (m,(m:Int),(l.take m).map encN):=by
 refine xm1 (fun k=>((k,(k:Int),(l.take k).map encN):Nat×Int×List AV)) m _ (fun k hk=>?_) ?_ m 0 (by omega)
 · have hkl:k<l.length:=by omega
   have i1:(k:Int)<(l.length:Int):=by omega
   have i2:=h1 k hk hkl
   have m1:(k+1)*8≤140737488355328:=by omega
   have m2:k+1≤4611686018427387904:=by omega
   have tl:(l.take k).length=k:=by rw [List.length_take];omega
   have gf:(l.map encN).getD k .top=encN l[k]:=xaH _ _ _ hkl
   simp only [xbT,xg9,List.length_map,xai,xaj,decide_true,decide_false,Bool.and_true,Bool.true_and,Bool.not_true,Bool.not_false,Int.toNat_natCast,Int.natCast_nonneg,Option.isSome_some,Option.getD_some,beq_self_eq_true,Nat.zero_add,Nat.sub_zero,hkl,i1,i2,gf,cN,sN,tl,m1,m2,xVi (n:=k) (by omega)]
   rw [List.take_add_one,List.getElem?_eq_getElem hkl,List.map_append]
   rfl
 · by_cases hml:m<l.length
   · have i1:(m:Int)<(l.length:Int):=by omega
     have i2:=h2 hml
     have gf:(l.map encN).getD m .top=encN l[m]:=xaH _ _ _ hml
     simp only [xbT,xg9,List.length_map,xai,xaj,decide_true,decide_false,Bool.and_true,Bool.true_and,Bool.not_true,Bool.not_false,Int.toNat_natCast,Int.natCast_nonneg,Option.isSome_some,Option.getD_some,beq_self_eq_true,Nat.zero_add,Nat.sub_zero,hml,i1,i2,gf,cN,sN]
   · have i1:¬ (m:Int)<(l.length:Int):=by omega
     simp only [xbT,xg9,List.length_map,xai,xaj,decide_true,decide_false,Bool.and_true,Bool.true_and,Bool.not_true,Bool.not_false,Int.toNat_natCast,Int.natCast_nonneg,Option.isSome_some,Option.getD_some,beq_self_eq_true,Nat.zero_add,Nat.sub_zero,i1]
theorem xML (l:List Int) (hl:l.length≤1048576):∀ (d i:Nat) (D:List Int),i+d=l.length→D.length≤1048576+i →
  Iter (xbU (l.map encN)) (D.length,(i:Int),D.map encN)=some ((D++l.drop i).length,(D++l.drop i).map encN)
 | 0,i,D,h,hD=>by
  obtain rfl:i=l.length:=by omega
  rw [List.drop_eq_nil_of_le (Nat.le_refl _),List.append_nil]
  refine xaJ ?_
  simp only [xbU,xjk,List.length_map,Int.lt_irrefl,decide_false,xaj]
 | d+1,i,D,h,hD=>by
  have hil:i<l.length:=by omega
  have i1:(i:Int)<(l.length:Int):=by omega
  have m1:(D.length+1)*8≤140737488355328:=by omega
  have m2:D.length+1≤4611686018427387904:=by omega
  have gf:(l.map encN).getD i .top=encN l[i]:=xaH _ _ _ hil
  rw [xaZ (s':=((D++[l[i]]).length,((i+1:Nat):Int),(D++[l[i]]).map encN)) ?_,xML l hl d (i+1) (D++[l[i]]) (by omega) (by rw [List.length_append];simp;omega),xbI hil,List.append_assoc]
  · rfl
  · simp only [xbU,xjk,List.length_map,xai,xaj,decide_true,decide_false,Bool.and_true,Bool.true_and,Bool.not_true,Bool.not_false,Int.toNat_natCast,Int.natCast_nonneg,Option.isSome_some,Option.getD_some,beq_self_eq_true,Nat.zero_add,Nat.sub_zero,hil,i1,gf,cN,sN,m1,m2,xVi (n:=i) (by omega)]
    simp [encN]
theorem xwH (l:List Int) (n:Int) (hl:l.length≤1048576):xb6 (l.map encN) n=some ((insI l n).map encN):=by
 obtain ⟨m,hm,h1,h2,h3⟩:=xGg n l
 have e0:=xUH l n hl m hm h1 h2
 have tl:(l.take m).length=m:=by rw [List.length_take];omega
 have e1:=xML l hl (l.length - m) m (l.take m++[n]) (by omega) (by rw [List.length_append,tl];simp;omega)
 have e2:=xML l hl (l.length - m) m (l.take m) (by omega) (by omega)
 rw [List.length_append,tl,List.map_append] at e1
 rw [tl] at e2
 have e1:Iter (xbU (l.map encN)) (m+1,(m:Int),(l.take m).map encN++[AV.int .i64 n])=some ((l.take m++[n]++l.drop m).length,(l.take m++[n]++l.drop m).map encN):=e1
 have m1:(m+1)*8≤140737488355328:=by omega
 have m2:m+1≤4611686018427387904:=by omega
 rw [h3]
 unfold xb6 xpk
 by_cases hml:m<l.length
 · have i1:((m:Int)==(l.length:Int))=false:=by simp;omega
   have i2:(m:Int)<(l.length:Int):=by omega
   have gf:(l.map encN).getD m .top=encN l[m]:=xaH _ _ _ hml
   rw [dif_pos hml]
   by_cases hn:n<l[m]
   · have i3:l[m]>n:=hn
     simp only [xc9,xgQ,xgR,xk5,xk6,xk7,xk8,xk9,xla,xlb,xeP,xj7,xh0,xh1,xj8,xj9,e0,Option.isSome_some,Option.getD_some,List.length_map,i1,i2,hml,gf,cN,sN,i3,m1,m2,tl,e1,List.length_map,xai,xaj,decide_true,decide_false,Bool.and_true,Bool.true_and,Bool.not_true,Bool.not_false,Int.toNat_natCast,Int.natCast_nonneg,Option.isSome_some,Option.getD_some,beq_self_eq_true,Nat.zero_add,Nat.sub_zero,List.drop_zero,List.take_of_length_le,Nat.zero_add,List.length_map,Nat.le_refl,decide_true,Bool.and_true,xai,Option.isSome_some,Option.getD_some,↓reduceIte,List.append_assoc,List.singleton_append]
   · have i3:¬ l[m]>n:=hn
     simp only [xc9,xgQ,xgR,xk5,xk6,xk7,xk8,xk9,xla,xlb,xeP,xj7,xh0,xh1,xj8,xj9,e0,Option.isSome_some,Option.getD_some,List.length_map,i1,i2,hml,gf,cN,sN,i3,e2,List.length_map,xai,xaj,decide_true,decide_false,Bool.and_true,Bool.true_and,Bool.not_true,Bool.not_false,Int.toNat_natCast,Int.natCast_nonneg,Option.isSome_some,Option.getD_some,beq_self_eq_true,Nat.zero_add,Nat.sub_zero,List.drop_zero,List.take_of_length_le,Nat.zero_add,List.length_map,Nat.le_refl,decide_true,Bool.and_true,xai,Option.isSome_some,Option.getD_some,↓reduceIte]
 · have i1:((m:Int)==(l.length:Int))=true:=by simp;omega
   rw [dif_neg hml]
   have hd:l.drop m=[]:=List.drop_eq_nil_of_le (by omega)
   rw [hd,List.append_nil] at e1
   simp only [xc9,xgQ,xgR,xk5,xk6,xk7,xk8,xk9,xla,xlb,xeP,xj7,xh0,xh1,xj8,xj9,e0,Option.isSome_some,Option.getD_some,List.length_map,i1,m1,m2,tl,e1,List.length_map,xai,xaj,decide_true,decide_false,Bool.and_true,Bool.true_and,Bool.not_true,Bool.not_false,Int.toNat_natCast,Int.natCast_nonneg,Option.isSome_some,Option.getD_some,beq_self_eq_true,Nat.zero_add,Nat.sub_zero,List.drop_zero,List.take_of_length_le,Nat.zero_add,List.length_map,Nat.le_refl,decide_true,Bool.and_true,xai,Option.isSome_some,Option.getD_some]
theorem xvh {α:Type} (l:List α):l=[]∨∃ m a,l=m++[a]:=by
 rcases List.eq_nil_or_concat l with h|⟨m,a,h⟩
 · exact .inl h
 · exact .inr ⟨m,a,by rw [h,List.concat_eq_append]⟩
theorem xOR (S:List Per) (f n:Int) (hS:S.length≤16777216):∃ p,xeQ S.length f n (S.map encP)=some p∧br p.1 p.2.1.1 p.2.2.1=(putS S f n).length∧br p.1 p.2.1.2 p.2.2.2=(putS S f n).map encP:=by
 have m1:(S.length+1)*16≤140737488355328:=by omega
 have m2:S.length+1≤4611686018427387904:=by omega
 rcases xvh S with rfl|⟨S',s,rfl⟩
 · refine ⟨(false,(0,[]),(1,[encP (f,n)])),?_,rfl,rfl⟩
   unfold xeQ xnz
   simp [xbR,encP]
 · have hk:IntKind.i64.wrap (((S'++[s]).length:Int) - 1)=((S'.length:Nat):Int):=by
    rw [List.length_append,xdD (by simp<;>omega) (by simp at hS ⊢<;>omega)];simp
   have g1:((S'++[s]).length:Int)>0:=by simp<;>omega
   have g2:(S'.length:Int)<((S'++[s]).length:Int):=by simp<;>omega
   have g3:S'.length<(S'++[s]).length:=by simp
   have gf:((S'++[s]).map encP).getD S'.length .top=encP s:=by
    rw [xaH _ _ _ (by simp)];simp
   have hl:(S'++[s]).getLast?=some s:=by simp
   by_cases he:s.2=n
   · refine ⟨(true,((S'++[s]).length,(S'++[s]).map encP),(0,[])),?_,?_,?_⟩
     · unfold xeQ xnz
       simp only [hk,g1,g2,g3,gf,List.length_map,xai,xaj,decide_true,decide_false,Bool.and_true,Bool.true_and,Bool.not_true,Bool.not_false,Int.toNat_natCast,Int.natCast_nonneg,Option.isSome_some,Option.getD_some,beq_self_eq_true,Nat.zero_add,Nat.sub_zero,cP0,cP1,lP,sP,sP0,sP1,he]
     · simp only [xai,putS,hl,if_pos he]
     · simp only [xai,putS,hl,if_pos he]
   · have he':(s.2==n)=false:=by simp [he]
     refine ⟨(false,(0,[]),((S'++[s]).length+1,(S'++[s]).map encP++[encP (f,n)])),?_,?_,?_⟩
     · unfold xeQ xnz
       simp only [hk,g1,g2,g3,gf,List.length_map,xai,xaj,decide_true,decide_false,Bool.and_true,Bool.true_and,Bool.not_true,Bool.not_false,Int.toNat_natCast,Int.natCast_nonneg,Option.isSome_some,Option.getD_some,beq_self_eq_true,Nat.zero_add,Nat.sub_zero,cP0,cP1,lP,sP,sP0,sP1,he',m1,m2]
       rfl
     · simp only [xaj,putS,hl,if_neg he];simp
     · simp only [xaj,putS,hl,if_neg he];simp
def ptsC (l:List Cnt):List Int:=l.foldl (fun P c=>if pv c.1=true then insI (insI P c.1.1) c.1.2 else P) [0]
theorem xM1 (l:List Cnt) (c:Cnt):ptsC (l++[c])=if pv c.1=true then insI (insI (ptsC l) c.1.1) c.1.2 else ptsC l:=by simp [ptsC]
theorem xM2:∀ l:List Cnt,Asc (ptsC l.reverse)∧∀ x,x∈ptsC l.reverse↔x=0∨∃ c,c∈l∧pv c.1=true∧(x=c.1.1∨x=c.1.2)
 | []=>by simp [ptsC,Asc]
 | c::l=>by
  obtain ⟨h1,h2⟩:=xM2 l
  rw [List.reverse_cons,xM1]
  split
  · rename_i hv
    refine ⟨xti (xti h1 _) _,fun x=>?_⟩
    rw [xqP,xqP,h2]
    constructor
    · rintro (h|h|h|⟨c',a,b,d⟩)
      · exact .inr ⟨c,by simp,hv,.inr h⟩
      · exact .inr ⟨c,by simp,hv,.inl h⟩
      · exact .inl h
      · exact .inr ⟨c',by simp [a],b,d⟩
    · rintro (h|⟨c',a,b,d⟩)
      · exact .inr (.inr (.inl h))
      · rcases List.mem_cons.1 a with rfl|a
        · rcases d with d|d
          · exact .inr (.inl d)
          · exact .inl d
        · exact .inr (.inr (.inr ⟨c',a,b,d⟩))
  · rename_i hv
    refine ⟨h1,fun x=>?_⟩
    rw [h2]
    constructor
    · rintro (h|⟨c',a,b,d⟩)
      · exact .inl h
      · exact .inr ⟨c',by simp [a],b,d⟩
    · rintro (h|⟨c',a,b,d⟩)
      · exact .inl h
      · rcases List.mem_cons.1 a with rfl|a
        · exact absurd b hv
        · exact .inr ⟨c',a,b,d⟩
theorem xUO (l:List Cnt):Asc (ptsC l)∧∀ x,x∈ptsC l↔x=0∨∃ c,c∈l∧pv c.1=true∧(x=c.1.1∨x=c.1.2):=by
 have:=xM2 l.reverse
 simpa using this
theorem xU4 (l:List Cnt) (hl:l.length≤262144):Iter (xdT (l.map encC)) ([AV.int IntKind.i64 (0:Int)],(0:Int))=some ((ptsC l).map encN)∧(ptsC l).length≤2*l.length+1:=by
 have hlen:∀ l:List Cnt,(ptsC l.reverse).length≤2*l.length+1:=fun l=>by
  induction l with
  | nil=>simp [ptsC]
  | cons c l ih =>
   rw [List.reverse_cons,xM1]
   have a1:=xon (ptsC l.reverse) c.1.1
   have a2:=xon (insI (ptsC l.reverse) c.1.1) c.1.2
   split<;>simp<;>omega
 refine ⟨?_,by have:=hlen l.reverse;simpa using this⟩
 refine xKG l (fun P c=>if pv c.1=true then insI (insI P c.1.1) c.1.2 else P) (fun n b=>(b.map encN,(n:Int))) (fun n b=>b.length≤2*n+1) (fun n h b hb=>?_) l.length 0 [0] (by omega) (by simp) ?_
 · have h1:(n:Int)<(l.length:Int):=by omega
   have gf:(l.map encC).getD n .top=encC l[n]:=xaH _ _ _ h
   have a1:=xon b l[n].1.1
   have a2:=xon (insI b l[n].1.1) l[n].1.2
   have i1:=xwH b l[n].1.1 (by omega)
   have i2:=xwH (insI b l[n].1.1) l[n].1.2 (by omega)
   refine ⟨?_,by split<;>omega⟩
   simp only [xdT,xnl,xme,List.length_map,xai,xaj,decide_true,decide_false,Bool.and_true,Bool.true_and,Bool.not_true,Bool.not_false,Int.toNat_natCast,Int.natCast_nonneg,Option.isSome_some,Option.getD_some,beq_self_eq_true,Nat.zero_add,Nat.sub_zero,h,h1,gf,cC0,cC1,cC2,lC,sC,sC3,sC2,xwY,i1,i2,xVi (n:=n) (by omega),sC0,sC1]
   cases pv l[n].1<;>simp [xai,xaj]
 · simp only [List.drop_zero]
   simp only [xdT,xnl,xme,List.length_map,Int.lt_irrefl,decide_false,xaj]
   rfl
def Tame (l:List Cnt):Prop:=l.length≤262144∧∀ c,c∈l→-1099511627776≤c.2∧c.2≤1099511627776
theorem xU5 (l:List Cnt) (hl:Tame l) (P:List Int) (hP:P.length≤1048576) (on k:Nat) (hk:k<P.length) (ox:List AV):Iter (xdV (l.map encC) (P.map encN) on (k:Int)) ((0:Int),(0:Int),ox)=some (sumC l P[k],ox):=by
 have k1:(k:Int)<(P.length:Int):=by omega
 have gk:(P.map encN).getD k .top=encN P[k]:=xaH _ _ _ hk
 have hll:=hl.1
 refine xm1 (fun i=>((sumC (l.take i) P[k],(i:Int),ox):Int×Int×List AV)) l.length _ (fun i hi=>?_) ?_ l.length 0 (by omega)
 · have h1:(i:Int)<(l.length:Int):=by omega
   have gf:(l.map encC).getD i .top=encC l[i]:=xaH _ _ _ hi
   have hs:sumC (l.take (i+1)) P[k]=sumC (l.take i) P[k]+if hasP l[i].1 P[k]=true then l[i].2 else 0:=by
    rw [List.take_add_one,List.getElem?_eq_getElem hi,xOi]
    show _+sumC [l[i]] P[k]=_
    rw [xrj,xNp];omega
   have hb:=xNo 1099511627776 (by omega) P[k] (l.take i) fun c hc=>hl.2 c (List.mem_of_mem_take hc)
   have htl:(l.take i).length=i:=by rw [List.length_take];omega
   rw [htl] at hb
   have hc:=hl.2 l[i] (List.getElem_mem hi)
   have hw:hasP l[i].1 P[k]=true→IntKind.i64.wrap (sumC (l.take i) P[k]+l[i].2)=sumC (l.take i) P[k]+l[i].2:=fun _=>xdD (by omega) (by omega)
   simp only [xdV,xnm,List.length_map,xai,xaj,decide_true,decide_false,Bool.and_true,Bool.true_and,Bool.not_true,Bool.not_false,Int.toNat_natCast,Int.natCast_nonneg,Option.isSome_some,Option.getD_some,beq_self_eq_true,Nat.zero_add,Nat.sub_zero,hi,h1,hk,k1,gf,gk,cC0,cC1,cC2,lC,sC,sC3,sC2,cN,sN,xSU,xVi (n:=i) (by omega),hs]
   cases hc:hasP l[i].1 P[k] with
   | false=>simp [xaj]
   | true=>rw [xai,hw hc];rfl
 · simp only [xdV,xnm,List.length_map,Int.lt_irrefl,decide_false,xaj,List.take_length]
theorem xUR (l:List Cnt) (hl:Tame l):∃ S,xqW (l.map encC)=some (S.map encP)∧StepI (sumC l) 1099511627776 S∧S.length≤2*l.length+1:=by
 obtain ⟨e0,hPl⟩:=xU4 l hl.1
 obtain ⟨hP1,hP2⟩:=xUO l
 generalize hP:ptsC l=P at *
 have hll:=hl.1
 have hrng:∀ x,x∈P→0≤x∧x≤1099511627776:=fun x hx=>by
  rcases (hP2 x).1 hx with rfl|⟨c,_,hv,h⟩
  · omega
  · have:=xeO.1 hv
    rcases h with rfl|rfl<;>omega
 obtain ⟨m,hm,hlt,hend⟩:∃ m,m≤P.length∧(∀ k (h:k<P.length),k<m→P[k]<1099511627776)∧∀ h:m<P.length,¬ P[m]<1099511627776:=by
  obtain ⟨m,a,b,c,_⟩:=xGg 1099511627776 P
  exact ⟨m,a,fun k h hk=>b k hk h,c⟩
 let G:Nat→List Per:=fun k=>(P.take k).foldl (fun S p=>putS S p (sumC l p)) []
 have hG:∀ k (h:k<P.length),G (k+1)=putS (G k) P[k] (sumC l P[k]):=fun k h=>by
  simp only [G]
  rw [List.take_add_one,List.getElem?_eq_getElem h,List.foldl_append];rfl
 have hGl:∀ k,k≤P.length→(G k).length≤k:=fun k=>by
  induction k with
  | zero=>intro _;simp [G]
  | succ k ih=>intro h;rw [hG k (by omega)];have:=xM3 (G k) P[k] (sumC l P[k]);have:=ih (by omega);omega
 have hP0:0<P.length:=List.length_pos_of_mem ((hP2 0).2 (.inl rfl))
 have hfirst:P[0]=0:=by
  have h0:=(hrng P[0] (List.getElem_mem hP0)).1
  obtain ⟨j,hj,hj0⟩:=List.mem_iff_getElem.1 ((hP2 0).2 (.inl rfl))
  rcases Nat.eq_zero_or_pos j with rfl|hpos
  · exact hj0
  · have:=List.pairwise_iff_getElem.1 hP1 0 j hP0 hj hpos;omega
 have hm0:0<m:=by
  rcases Nat.eq_zero_or_pos m with rfl|h
  · exact absurd (by rw [hfirst];omega) (hend hP0)
  · exact h
 have nb:∀ k (h:k<P.length) T',(∀ h2:k+1<P.length,T'≤P[k+1])→T'≤1099511627776→∀ t,P[k]≤t→t<T'→sumC l t=sumC l P[k]:=fun k h T' hT hF t h1 h2=>by
  have no:∀ x,x∈P→¬ (P[k]<x∧x<T'):=fun x hx ⟨a,b⟩=>by
   obtain ⟨j,hj,rfl⟩:=List.mem_iff_getElem.1 hx
   rcases Nat.lt_trichotomy j k with hjk|rfl|hjk
   · have:=List.pairwise_iff_getElem.1 hP1 j k hj h hjk;omega
   · omega
   · rcases Nat.lt_or_eq_of_le hjk with h3|h3
     · have:=List.pairwise_iff_getElem.1 hP1 (k+1) j (by omega) hj h3
       have:=hT (by omega);omega
     · have h4:j=k+1:=h3.symm
       subst h4
       have:=hT hj;omega
  refine xIG (T:=P[k]) (T':=T') (fun c hc hv=>⟨no _ ((hP2 _).2 (.inr ⟨c,hc,hv,.inl rfl⟩)),no _ ((hP2 _).2 (.inr ⟨c,hc,hv,.inr rfl⟩))⟩) t h1 h2
 have inv:∀ k (h:k<P.length),k<m→StepI (sumC l) P[k] (G k):=fun k=>by
  induction k with
  | zero=>intro h _;rw [hfirst];exact .nil _
  | succ k ih =>
   intro h hkm
   rw [hG k (by omega)]
   have h1:=List.pairwise_iff_getElem.1 hP1 k (k+1) (by omega) h (by omega)
   have h2:=hlt (k+1) h hkm
   exact (ih (by omega) (by omega)).put (hrng _ (List.getElem_mem (by omega))).1 h1 (nb k (by omega) P[k+1] (fun _=>Int.le_refl _) (by omega))
 have fin:StepI (sumC l) 1099511627776 (G m):=by
  obtain ⟨k,rfl⟩:∃ k,m=k+1:=⟨m - 1,by omega⟩
  rw [hG k (by omega)]
  exact (inv k (by omega) (by omega)).put (hrng _ (List.getElem_mem (by omega))).1 (hlt k (by omega) (by omega)) (nb k (by omega) _ (fun h2=>by have:=hend h2;omega) (Int.le_refl _))
 refine ⟨G m,?_,fin,by have:=hGl m hm;omega⟩
 have e1:Iter (xdU (l.map encC) (P.map encN)) ((0:Nat),(0:Int),[])=some ((G m).length,(G m).map encP):=by
  refine xm1 (fun k=>(((G k).length,(k:Int),(G k).map encP):Nat×Int×List AV)) m _ (fun k hk=>?_) ?_ m 0 (by omega)
  · have hkP:k<P.length:=by omega
    have k1:(k:Int)<(P.length:Int):=by omega
    have k2:=hlt k hkP hk
    have gk:(P.map encN).getD k .top=encN P[k]:=xaH _ _ _ hkP
    have e2:=xU5 l hl P (by omega) (G k).length k hkP ((G k).map encP)
    have hgk:=hGl k (by omega)
    obtain ⟨p,hp1,hp2,hp3⟩:=xOR (G k) P[k] (sumC l P[k]) (by omega)
    simp only [xdU,xkC,xmf,xmg,xmh,xmi,xmj,xmk,xml,List.length_map,xai,xaj,decide_true,decide_false,Bool.and_true,Bool.true_and,Bool.not_true,Bool.not_false,Int.toNat_natCast,Int.natCast_nonneg,Option.isSome_some,Option.getD_some,beq_self_eq_true,Nat.zero_add,Nat.sub_zero,hkP,k1,k2,gk,cN,sN,e2,hp1,hp2,hp3,xVi (n:=k) (by omega),hG k hkP]
  · by_cases hmP:m<P.length
    · have k1:(m:Int)<(P.length:Int):=by omega
      have k2:=hend hmP
      have gk:(P.map encN).getD m .top=encN P[m]:=xaH _ _ _ hmP
      simp only [xdU,xkC,xmf,xmg,xmh,xmi,xmj,xmk,xml,List.length_map,xai,xaj,decide_true,decide_false,Bool.and_true,Bool.true_and,Bool.not_true,Bool.not_false,Int.toNat_natCast,Int.natCast_nonneg,Option.isSome_some,Option.getD_some,beq_self_eq_true,Nat.zero_add,Nat.sub_zero,hmP,k1,k2,gk,cN,sN]
    · have k1:¬ (m:Int)<(P.length:Int):=by omega
      simp only [xdU,xkC,xmf,xmg,xmh,xmi,xmj,xmk,xml,List.length_map,xai,xaj,decide_true,decide_false,Bool.and_true,Bool.true_and,Bool.not_true,Bool.not_false,Int.toNat_natCast,Int.natCast_nonneg,Option.isSome_some,Option.getD_some,beq_self_eq_true,Nat.zero_add,Nat.sub_zero,k1]
 unfold xqW xvb
 simp only [xyD,xyE,xyF,xyG,e0,Option.getD_some,Option.isSome_some,xai,e1,List.drop_zero,List.take_of_length_le,Nat.zero_add,List.length_map,Nat.le_refl,decide_true,Bool.and_true,xai,Option.isSome_some,Option.getD_some]
end Go.Sim.M
end
noncomputable section
set_option maxRecDepth 100000
namespace Go.Sim.M
open Go.RowKit Go.Sim.Srt Go.Sort
def chg (c:Cnt):List Per:=if pv c.1=true then [(c.1.1,c.2),(c.1.2,-c.2)] else []
theorem xOv {l:List Cnt}:∀ s,s∈l.flatMap chg→0≤s.1∧s.1≤1099511627776:=fun s hs=>by
 obtain ⟨c,hc,h⟩:=List.mem_flatMap.1 hs
 unfold chg at h
 split at h
 · rename_i hv
   have:=xeO.1 hv
   simp only [List.mem_cons,List.not_mem_nil,or_false] at h
   rcases h with rfl|rfl<;>dsimp only<;>omega
 · simp at h
theorem xTN (c:Cnt):(chg c).length≤2:=by unfold chg;split<;>simp
def sumS (S:List Per) (t:Int):Int:=(S.map fun s=>if s.1≤t then s.2 else 0).sum
theorem xFx (a b:List Per) (t:Int):sumS (a++b) t=sumS a t+sumS b t:=by simp [sumS]
theorem xS7 {a b:List Int} (h:a.Perm b):a.sum=b.sum:=by
 induction h with
 | nil=>rfl
 | cons x _ ih=>simp [ih]
 | swap x y l=>simp;omega
 | trans _ _ h1 h2=>rw [h1,h2]
theorem xRx {a b:List Per} (h:a.Perm b) (t:Int):sumS a t=sumS b t:=xS7 (h.map _)
theorem xNq (t:Int):∀ l:List Cnt,sumS (l.flatMap chg) t=sumC l t
 | []=>rfl
 | c::l=>by
  rw [List.flatMap_cons,xFx,xNq t l,xrj]
  congr 1
  unfold chg
  cases hv:pv c.1 with
  | false=>simp [sumS,hasP,hv]
  | true =>
   have:=xeO.1 hv
   simp only [if_true,sumS,List.map_cons,List.map_nil,List.sum_cons,List.sum_nil,hasP,hv,Bool.true_and,Bool.and_eq_true,decide_eq_true_eq]
   by_cases h1:c.1.1≤t<;>by_cases h2:c.1.2≤t
   · rw [if_pos h1,if_pos h2,if_neg (by omega)];omega
   · rw [if_pos h1,if_neg h2,if_pos (by omega)];omega
   · omega
   · rw [if_neg h1,if_neg h2,if_neg (by omega)];omega
theorem sum0:∀ L:List Per,(L.map fun _=>(0:Int)).sum=0
 | []=>rfl
 | _::L=>by rw [List.map_cons,List.sum_cons,sum0 L];rfl
def preS (S:List Per) (i:Nat):Int:=((S.take i).map (·.2)).sum
theorem xKP (S:List Per) (i:Nat) (h:i<S.length):preS S (i+1)=preS S i+S[i].2:=by
 unfold preS
 rw [List.take_add_one,List.getElem?_eq_getElem h,List.map_append,List.sum_append]
 simp
theorem xSO (S:List Per) (i:Nat) (hi:i≤S.length) (t:Int) (h1:∀ k (h:k<S.length),k<i→S[k].1≤t) (h2:∀ k (h:k<S.length),i≤k→t<S[k].1):preS S i=sumS S t:=by
 have e:S=S.take i++S.drop i:=(List.take_append_drop i S).symm
 conv=>rhs;rw [e]
 rw [xFx]
 have a1:sumS (S.take i) t=preS S i:=by
  unfold sumS preS
  congr 1
  refine List.map_congr_left fun s hs=>?_
  obtain ⟨k,hk,rfl⟩:=List.mem_iff_getElem.1 hs
  rw [List.length_take] at hk
  rw [List.getElem_take,if_pos (h1 k (by omega) (by omega))]
 have a2:sumS (S.drop i) t=0:=by
  unfold sumS
  have:(S.drop i).map (fun s=>if s.1≤t then s.2 else 0)=(S.drop i).map fun _=>(0:Int):=by
   refine List.map_congr_left fun s hs=>?_
   obtain ⟨k,hk,rfl⟩:=List.mem_iff_getElem.1 hs
   rw [List.length_drop] at hk
   have:=h2 (i+k) (by omega) (by omega)
   rw [List.getElem_drop,if_neg (by omega)]
  rw [this]
  exact sum0 _
 omega
theorem xMx {B:Int} (hB:0≤B) (S:List Per) (h:∀ s,s∈S→-B≤s.2∧s.2≤B):∀ i,i≤S.length→-(B*i)≤preS S i∧preS S i≤B*i
 | 0,_=>by simp [preS]
 | i+1,hi=>by
  have ih:=xMx hB S h i (by omega)
  have hs:=h S[i] (List.getElem_mem (by omega))
  rw [xKP S i (by omega),show B*((i+1:Nat):Int)=B*(i:Int)+B by rw [Int.natCast_add,Int.mul_add];simp]
  omega
def toS (e:Per):TyS:=(Fin.ofNat 1099511627777 e.1.toNat,e.2)
def ofS (x:TyS):Per:=((x.1.val:Int),x.2)
theorem xT0 {e:Per} (h1:0≤e.1) (h2:e.1≤1099511627776):ofS (toS e)=e:=by
 have:e.1.toNat % 1099511627777=e.1.toNat:=Nat.mod_eq_of_lt (by omega)
 simp only [ofS,toS,Fin.ofNat,this,Int.toNat_of_nonneg h1]
theorem xUn (E:List Per) (h:∀ e,e∈E→0≤e.1∧e.1≤1099511627776):(E.map encP).all isS=true∧∃ S:List Per,srtS (E.map encP)=S.map encP∧S.Perm E∧S.Pairwise fun x y=>x.1≤y.1:=by
 refine ⟨?_,(pdqL cmpS (E.map toS)).map ofS,?_,?_,?_⟩
 · rw [List.all_eq_true]
   intro x hx
   obtain ⟨e,he,rfl⟩:=List.mem_map.1 hx
   have:=h e he
   show (decide _&&decide _)=true
   rw [decide_eq_true this.1,decide_eq_true this.2];rfl
 · unfold srtS
   have e1:(E.map encP).map decS=E.map toS:=by rw [List.map_map];rfl
   rw [e1,List.map_map];rfl
 · have hp:=((xk1 cmpS swoS (E.map toS)).1).map ofS
   have e2:(E.map toS).map ofS=E:=by
    rw [List.map_map]
    conv=>rhs;rw [←List.map_id E]
    refine List.map_congr_left fun e he=>?_
    exact xT0 (h e he).1 (h e he).2
   rwa [e2] at hp
 · rw [List.pairwise_map]
   refine (xtJ cmpS swoS (E.map toS)).imp fun {x y} hxy=>?_
   show ((x.1.val:Nat):Int)≤((y.1.val:Nat):Int)
   unfold cmpS at hxy
   omega
theorem xTW (n o:Nat):xgm n o=xdk n o 0:=rfl
theorem xGW (l:List Cnt) (hl:l.length≤1048576) (ht:∀ c,c∈l→-1099511627776≤c.2∧c.2≤1099511627776):Iter (xdW (l.map encC) ((l.length:Nat):Int)) ((0:Nat),(0:Int),[])=some ((l.flatMap (fun (f:Cnt)=>chg f)).length,(l.flatMap (fun (f:Cnt)=>chg f)).map encP):=by
 refine xoq l (fun (f:Cnt)=>chg f) encP 2 (fun f hf=>?_) (fun n h D hD=>?_) (fun D=>?_)
 · cases hc0:(pv (f).1)<;>simp [chg,hc0]
 · have h1:(n:Int)<(l.length:Int):=by omega
   have m1:(D.length+2)*16≤140737488355328:=by omega
   have m2:D.length+2≤4611686018427387904:=by omega
   have gf:(l.map encC).getD n .top=encC l[n]:=xaH _ _ _ h
   have hm:=ht l[n] (List.getElem_mem h)
   have hw:IntKind.i64.wrap (0 - l[n].2)=-l[n].2:=by rw [xdD (by omega) (by omega)];omega
   simp only [xdW,xnr,List.length_map,xai,xaj,decide_true,decide_false,Bool.and_true,Bool.true_and,Bool.not_true,Bool.not_false,Int.toNat_natCast,Int.natCast_nonneg,Option.isSome_some,Option.getD_some,beq_self_eq_true,Nat.zero_add,Nat.sub_zero,h,h1,gf,cC0,cC1,cC2,lC,sC,sC3,sC2,xov,hw,m1,m2,xVi (n:=n) (by omega)]
   cases hc0:(pv (l[n]).1)<;>simp [encP,xai,xaj,encR,chg,hc0]
 · simp only [xdW,xnr,List.length_map,Int.lt_irrefl,decide_false,xaj]
theorem xGf (S:List Per) (hS:S.length≤1048576) (hb:∀ s,s∈S→-1099511627776≤s.2∧s.2≤1099511627776) (on:Nat) (at':Int) (ox:List AV):∀ (d i:Nat),i+d=S.length→∃ j:Nat,i≤j∧j≤S.length∧(∀ k (h:k<S.length),i≤k→k<j→S[k].1=at')∧(∀ h:j<S.length,S[j].1≠at') ∧
  Iter (xdk S.length on at') (preS S i,(i:Int),S.map encP,ox)=some (preS S j,(j:Int),S.map encP,ox)
 | 0,i,h=>by
  refine ⟨i,Nat.le_refl _,by omega,fun k _ h1 h2=>by omega,fun h=>by omega,xaJ ?_⟩
  have i1:¬ (i:Int)<(S.length:Int):=by omega
  simp only [xdk,xkQ,xmT,i1,decide_false,xaj]
 | d+1,i,h=>by
  have hi:i<S.length:=by omega
  have i1:(i:Int)<(S.length:Int):=by omega
  have gf:(S.map encP).getD i .top=encP S[i]:=xaH _ _ _ hi
  by_cases he:S[i].1=at'
  · obtain ⟨j,h1,h2,h3,h4,h5⟩:=xGf S hS hb on at' ox d (i+1) (by omega)
    refine ⟨j,by omega,h2,fun k hk a b=>?_,h4,?_⟩
    · rcases Nat.lt_or_eq_of_le a with a|a
      · exact h3 k hk a b
      · subst a;exact he
    · have hp:=xMx (B:=1099511627776) (by omega) S hb i (by omega)
      have hs:=hb S[i] (List.getElem_mem hi)
      rw [xaZ (s':=(preS S (i+1),((i+1:Nat):Int),S.map encP,ox)) ?_,h5]
      simp only [xdk,xkQ,xmT,List.length_map,xai,xaj,decide_true,decide_false,Bool.and_true,Bool.true_and,Bool.not_true,Bool.not_false,Int.toNat_natCast,Int.natCast_nonneg,Option.isSome_some,Option.getD_some,beq_self_eq_true,Nat.zero_add,Nat.sub_zero,hi,i1,gf,cP0,cP1,lP,sP,sP0,sP1,he,xVi (n:=i) (by omega),xKP S i hi]
      rw [xdD (by omega) (by omega)]
  · have he':(S[i].1==at')=false:=by simp [he]
    refine ⟨i,Nat.le_refl _,by omega,fun k _ h1 h2=>by omega,fun _=>he,xaJ ?_⟩
    simp only [xdk,xkQ,xmT,List.length_map,xai,xaj,decide_true,decide_false,Bool.and_true,Bool.true_and,Bool.not_true,Bool.not_false,Int.toNat_natCast,Int.natCast_nonneg,Option.isSome_some,Option.getD_some,beq_self_eq_true,Nat.zero_add,Nat.sub_zero,hi,i1,gf,cP0,cP1,lP,sP,sP0,sP1,he']
theorem xAH (l:List Cnt) (hl:Tame l):∃ S,xoZ (l.map encC)=some (S.map encP)∧StepI (sumC l) 1099511627776 S∧S.length≤2*l.length+1:=by
 have hll:=hl.1
 have e0:=xGW l (by omega) hl.2
 have hE:=xlT (g:=chg) (c:=2) l fun c _=>xTN c
 obtain ⟨hall,S,hS,hp,hso⟩:=xUn (l.flatMap chg) xOv
 have hSl:S.length=(l.flatMap chg).length:=hp.length_eq
 have hrng:∀ s,s∈S→0≤s.1∧s.1≤1099511627776:=fun s hs=>xOv s (hp.mem_iff.1 hs)
 have hb:∀ s,s∈S→-1099511627776≤s.2∧s.2≤1099511627776:=fun s hs=>by
  obtain ⟨c,hc,h⟩:=List.mem_flatMap.1 (hp.mem_iff.1 hs)
  have:=hl.2 c hc
  unfold chg at h
  split at h
  · simp only [List.mem_cons,List.not_mem_nil,or_false] at h
    rcases h with rfl|rfl<;>dsimp only<;>omega
  · simp at h
 have hN:∀ t,sumS S t=sumC l t:=fun t=>by rw [xRx hp,xNq]
 have hle:∀ a b (ha:a<S.length) (hb:b<S.length),a≤b→S[a].1≤S[b].1:=fun a b ha hb hab=>by
  rcases Nat.lt_or_eq_of_le hab with h|h
  · exact List.pairwise_iff_getElem.1 hso a b ha hb h
  · subst h;exact Int.le_refl _
 let T:Nat→Int:=fun i=>if h:i<S.length then S[i].1 else 1099511627776
 have step:∀ (out:List Per) (i j:Nat) (at':Int),0≤at'→i≤j→j≤S.length→StepI (sumC l) at' out→at'<1099511627776→(∀ k (h:k<S.length),k<i→S[k].1≤at')→(∀ k (h:k<S.length),i≤k→at'≤S[k].1)→(∀ k (h:k<S.length),i≤k→k<j→S[k].1=at')→(∀ h:j<S.length,S[j].1≠at') →
   preS S j=sumC l at'∧StepI (sumC l) (T j) (putS out at' (preS S j))∧at'<T j∧∀ k (h:k<S.length),k<j→S[k].1≤at':=fun out i j at' h0 hij hj hout hF hbef haft heq hne=>by
  have a1:∀ k (h:k<S.length),k<j→S[k].1≤at':=fun k h hk=>by
   rcases Nat.lt_or_ge k i with h1|h1
   · exact hbef k h h1
   · rw [heq k h h1 hk];exact Int.le_refl _
  have a2:∀ k (h:k<S.length),j≤k→at'<S[k].1:=fun k h hk=>by
   have hjl:j<S.length:=by omega
   have b1:=haft j hjl hij
   have b2:=hne hjl
   have b3:=hle j k hjl h hk
   omega
  have hT:at'<T j:=by
   simp only [T]
   split
   · rename_i h;exact a2 j h (Nat.le_refl _)
   · exact hF
  have hpre:∀ t,at'≤t→t<T j→preS S j=sumC l t:=fun t h1 h2=>by
   rw [←hN]
   refine xSO S j hj t (fun k h hk=>by have:=a1 k h hk;omega) fun k h hk=>?_
   have hjl:j<S.length:=by omega
   have b3:=hle j k hjl h hk
   simp only [T,dif_pos hjl] at h2
   omega
  have e:=hpre at' (Int.le_refl _) hT
  refine ⟨e,?_,hT,a1⟩
  rw [e]
  exact hout.put h0 hT fun t h1 h2=>by rw [←hpre t h1 h2,e]
 have hput:∀ (out:List Per) (f n:Int),out.length≤2*l.length+1→∃ p,xfp out.length f n (out.map encP)=some p∧br p.1 p.2.1.1 p.2.2.1=(putS out f n).length∧br p.1 p.2.1.2 p.2.2.2=(putS out f n).map encP:=fun out f n h=>xOR out f n (by omega)
 obtain ⟨j0,_,hj0,h3,h4,e1⟩:=xGf S (by omega) hb 0 0 ([]:List AV) S.length 0 (by omega)
 obtain ⟨_,st0,_,bef0⟩:=step [] 0 j0 0 (Int.le_refl _) (Nat.zero_le _) hj0 (.nil _) (by omega) (fun k _ h=>by omega) (fun k h _=>(hrng _ (List.getElem_mem h)).1) h3 h4
 obtain ⟨p0,hp1,hp2,hp3⟩:=hput [] 0 (preS S j0) (by simp)
 have o0:putS [] 0 (preS S j0)=[(0,preS S j0)]:=rfl
 obtain ⟨r,hr,out,rfl,hout,hlen⟩:=xMO (step:=xdX S.length)
  (fun s=>∃ (out:List Per) (i:Nat),s=(out.length,preS S i,(i:Int),S.map encP,out.map encP)∧i≤S.length∧StepI (sumC l) (T i) out∧out.length≤i+1∧∀ k (h:k<S.length) (hi:i<S.length),k<i→S[k].1≤S[i].1) (fun s=>(S.length - s.2.2.1.toNat)) (fun r=>∃ out:List Per,r=(out.length,out.map encP)∧StepI (sumC l) 1099511627776 out∧out.length≤2*l.length+1)
  (by
   rintro _ ⟨out,i,rfl,hi,hst,hol,hbef⟩
   by_cases hil:i<S.length
   · have i1:(i:Int)<(S.length:Int):=by omega
     have gf:(S.map encP).getD i .top=encP S[i]:=xaH _ _ _ hil
     have hTi:T i=S[i].1:=dif_pos hil
     by_cases hF:S[i].1<1099511627776
     · left
       obtain ⟨j,a1,a2,a3,a4,a5⟩:=xGf S (by omega) hb out.length S[i].1 (out.map encP) (S.length - i) i (by omega)
       rw [hTi] at hst
       obtain ⟨b1,b2,b3,b4⟩:=step out i j S[i].1 (hrng _ (List.getElem_mem hil)).1 a1 a2 hst hF (fun k h hk=>hle k i h hil (by omega)) (fun k h hk=>hle i k hil h hk) a3 a4
       have hij:i<j:=by
        rcases Nat.lt_or_eq_of_le a1 with h|h
        · exact h
        · subst h;exact absurd rfl (a4 hil)
       obtain ⟨p,hp1,hp2,hp3⟩:=hput out S[i].1 (preS S j) (by omega)
       have hpl:=xM3 out S[i].1 (preS S j)
       refine ⟨((putS out S[i].1 (preS S j)).length,preS S j,(j:Int),S.map encP,(putS out S[i].1 (preS S j)).map encP),?_,⟨_,j,rfl,a2,b2,by omega,fun k h hj hk=>hle k j h hj (by omega)⟩,by dsimp only;rw [Int.toNat_natCast,Int.toNat_natCast];omega⟩
       simp only [xdX,xkO,xmJ,xmK,xmL,xmM,xmN,xmO,xmP,xmQ,xmR,xmS,xlJ,xlK,xjc,List.length_map,xai,xaj,decide_true,decide_false,Bool.and_true,Bool.true_and,Bool.not_true,Bool.not_false,Int.toNat_natCast,Int.natCast_nonneg,Option.isSome_some,Option.getD_some,beq_self_eq_true,Nat.zero_add,Nat.sub_zero,hil,i1,gf,cP0,cP1,lP,sP,sP0,sP1,hF,a5,hp1,hp2,hp3]
     · right
       have hFe:S[i].1=1099511627776:=by have:=(hrng _ (List.getElem_mem hil)).2;omega
       refine ⟨(out.length,out.map encP),?_,out,rfl,by rw [←hFe,←hTi];exact hst,by omega⟩
       simp only [xdX,xkO,xmJ,xmK,xmL,xmM,xmN,xmO,xmP,xmQ,xmR,xmS,xlJ,xlK,xjc,List.length_map,xai,xaj,decide_true,decide_false,Bool.and_true,Bool.true_and,Bool.not_true,Bool.not_false,Int.toNat_natCast,Int.natCast_nonneg,Option.isSome_some,Option.getD_some,beq_self_eq_true,Nat.zero_add,Nat.sub_zero,hil,i1,gf,cP0,cP1,lP,sP,sP0,sP1,hF]
   · right
     have i1:¬ (i:Int)<(S.length:Int):=by omega
     have hTi:T i=1099511627776:=dif_neg hil
     refine ⟨(out.length,out.map encP),?_,out,rfl,by rw [←hTi];exact hst,by omega⟩
     simp only [xdX,xkO,xmJ,xmK,xmL,xmM,xmN,xmO,xmP,xmQ,xmR,xmS,xlJ,xlK,xjc,List.length_map,xai,xaj,decide_true,decide_false,Bool.and_true,Bool.true_and,Bool.not_true,Bool.not_false,Int.toNat_natCast,Int.natCast_nonneg,Option.isSome_some,Option.getD_some,beq_self_eq_true,Nat.zero_add,Nat.sub_zero,i1])
  (([(0,preS S j0)]:List Per).length,preS S j0,(j0:Int),S.map encP,([(0,preS S j0)]:List Per).map encP) ⟨[(0,preS S j0)],j0,rfl,hj0,st0,by simp,fun k h hj hk=>hle k j0 h hj (by omega)⟩
 refine ⟨out,?_,hout,hlen⟩
 have d1:(l.flatMap chg).length<4611686018427387904:=by omega
 have d2:((l.flatMap chg).length).beq (l.flatMap chg).length=true:=Nat.beq_refl _
 have e1':Iter (xgm (l.flatMap chg).length 0) ((0:Int),(0:Int),S.map encP,[])=some (preS S j0,(j0:Int),S.map encP,[]):=by
  rw [xTW,←hSl];exact e1
 rw [hSl] at hr
 unfold xoZ xvi
 have hp1':xfp 0 0 (preS S j0) []=some p0:=hp1
 rw [o0] at hp2 hp3
 simp only [xyx,xy0,xy1,xy2,xy3,xy4,xy5,xy6,xy7,xy8,xv8,xv9,xwa,xwb,xwc,xox,xsJ,xwd,List.length_map,e0,Option.getD_some,Option.isSome_some,xai,hall,hS,d1,d2,e1',hp1',hp2,hp3,hr,decide_true,Bool.and_true,List.drop_zero,List.take_of_length_le,Nat.zero_add,List.length_map,Nat.le_refl,decide_true,Bool.and_true,xai,Option.isSome_some,Option.getD_some]
end Go.Sim.M
end
noncomputable section
set_option maxRecDepth 100000
namespace Go.Sim.M
open Go.RowKit Go.Sim.Srt
theorem xVZ {n:Nat} (h:n+1≤4611686018427387904):IntKind.i64.wrap (((n+1:Nat):Int) - 1)=(n:Int):=by rw [xdD (by omega) (by omega)];omega
theorem tkP (p:Per):List.take 1 (encP p).cells=[.int .i64 p.1]:=rfl
theorem dpP (p:Per):List.drop 2 (encP p).cells=[]:=rfl
theorem aggP (a b:Int):AV.agg [.int .i64 a,.int .i64 b]=encP (a,b):=rfl
theorem xMJ {α:Type} (l:List α) (x d:α):(l++[x]).getD l.length d=x:=by simp
theorem xUc {α:Type} (l:List α) (x y:α):(l++[x]).set l.length y=l++[y]:=by simp
def xVh (st:List Per):List Int:=st.flatMap fun s=>List.replicate s.2.toNat s.1
theorem xm0 (st:List Per) (f m:Int):xVh (st++[(f,m)])=xVh st++List.replicate m.toNat f:=by simp [xVh]
def StOk (st:List Per):Prop:=∀ s,s∈st→1≤s.2
theorem StOk.len {st:List Per} (h:StOk st):st.length≤(xVh st).length:=by
 unfold xVh
 induction st with
 | nil=>simp
 | cons s st ih =>
  have h1:=h s (by simp)
  have:=ih fun s hs=>h s (by simp [hs])
  rw [List.flatMap_cons,List.length_append,List.length_cons,List.length_replicate]
  omega
theorem xJg (at0 n:Int) (v:Nat) (k t2 f:Int) (stk:List Per) (ti:Nat) (hti:ti<stk.length) (hf:stk[ti].1=f) (K:Nat) (hK:K≤1048576):∀ (d j:Nat) (ox:List Per) (vo:Nat),j+d=K→ox.length+d≤1099511627776 →
  Iter (xcK at0 n v ti k (K:Int)) ((j:Int),t2,stk.length,v,ox.length,vo,v,stk.map encP,vo,ox.map encP)=some (t2,v,stk.length,vo+d,(ox++List.replicate d (f,at0)).length,stk.map encP,v,(ox++List.replicate d (f,at0)).map encP,vo+d)
 | 0,j,ox,vo,h,hb=>by
  obtain rfl:j=K:=by omega
  refine xaJ ?_
  simp only [xcK,xk0,Int.lt_irrefl,decide_false,xaj,List.replicate_zero,List.append_nil,Nat.add_zero]
 | d+1,j,ox,vo,h,hb=>by
  have i1:(j:Int)<(K:Int):=by omega
  have gf:(stk.map encP).getD ti .top=encP stk[ti]:=xaH _ _ _ hti
  have m1:(ox.length+1)*16≤140737488355328:=by omega
  have m2:ox.length+1≤4611686018427387904:=by omega
  have tk:List.take stk.length (stk.map encP)=stk.map encP:=List.take_of_length_le (by simp)
  rw [xaZ (s':=(((j+1:Nat):Int),t2,stk.length,v,(ox++[(f,at0)]).length,vo+1,v,stk.map encP,vo+1,(ox++[(f,at0)]).map encP)) ?_,xJg at0 n v k t2 f stk ti hti hf K hK d (j+1) (ox++[(f,at0)]) (vo+1) (by omega) (by rw [List.length_append,List.length_singleton];omega)]
  · rw [List.append_assoc,show [(f,at0)]++List.replicate d (f,at0)=List.replicate (d+1) (f,at0) from rfl,show vo+1+d=vo+(d+1) by omega]
  · simp only [xcK,xk0,List.length_map,xai,xaj,decide_true,decide_false,Bool.and_true,Bool.true_and,Bool.not_true,Bool.not_false,Int.toNat_natCast,Int.natCast_nonneg,Option.isSome_some,Option.getD_some,beq_self_eq_true,Nat.zero_add,Nat.sub_zero,i1,hti,gf,cP0,cP1,lP,sP,sP0,sP1,hf,m1,m2,tk,xVi (n:=j) (by omega)]
    simp [encP]
theorem xOT {α:Type} (n:Nat) (a:α):(List.replicate n a).reverse=List.replicate n a:=List.reverse_replicate ..
theorem xJf (at0:Int) (n:Nat):∀ (c:Nat) (stk:List Per) (h:Nat) (ox:List Per) (v vo:Nat),stk.length≤c→StOk stk→(xVh stk).length=h→n≤h→h≤1048576→ox.length+h≤1099511627776 →
  ∃ (stk' ox':List Per) (vo':Nat),Iter (xb5 at0 (n:Int)) ((h:Int),stk.length,v,ox.length,vo,v,stk.map encP,vo,ox.map encP)=some ((n:Int),v,stk'.length,vo',ox'.length,stk'.map encP,v,ox'.map encP,vo') ∧
   StOk stk'∧xVh stk'=(xVh stk).take n∧ox'=ox++(((xVh stk).drop n).reverse.map fun f=>(f,at0))
 | c,stk,h,ox,v,vo,hc,hs,hh,hn,hb,ho=>by
  by_cases hnh:n=h
  · subst hnh
    refine ⟨stk,ox,vo,xaJ ?_,hs,?_,?_⟩
    · have i1:¬ ((n:Int)>(n:Int)):=by omega
      simp only [xb5,xgP,i1,decide_false,xaj]
    · rw [List.take_of_length_le (by omega)]
    · rw [List.drop_eq_nil_of_le (by omega)];simp
  · have hlt:n<h:=by omega
    rcases xvh stk with rfl|⟨st,⟨f,m⟩,rfl⟩
    · simp [xVh] at hh;omega
    · have hm:=hs (f,m) (by simp)
      dsimp only at hm
      have hst:StOk st:=fun s h=>hs s (by simp [h])
      have hfl:(xVh st).length+m.toNat=h:=by rw [←hh,xm0,List.length_append,List.length_replicate]
      obtain ⟨M,rfl⟩:∃ M:Nat,m=(M:Int):=⟨m.toNat,by omega⟩
      rw [Int.toNat_natCast] at hfl
      have sl:=hs.len
      rw [List.length_append,List.length_singleton] at hc sl
      rw [hh] at sl
      have L1:(st++[(f,(M:Int))]).length=st.length+1:=by simp
      have i1:(h:Int)>(n:Int):=by omega
      have w1:IntKind.i64.wrap (((st.length+1:Nat):Int) - 1)=(st.length:Int):=xVZ (by omega)
      have w2:IntKind.i64.wrap ((h:Int) - (n:Int))=((h - n:Nat):Int):=by rw [xdD (by omega) (by omega)];omega
      have i2:(st.length:Int)<((st.length+1:Nat):Int):=by omega
      have i3:st.length<(st++[(f,(M:Int))]).length:=by omega
      have g0:(st++[(f,(M:Int))])[st.length]'i3=(f,(M:Int)):=by simp
      have gf:((st++[(f,(M:Int))]).map encP).getD st.length .top=encP (f,(M:Int)):=by rw [xaH _ _ _ i3,g0]
      have tk:List.take (st.length+1) ((st++[(f,(M:Int))]).map encP)=(st++[(f,(M:Int))]).map encP:=List.take_of_length_le (by simp)
      have st1:∀ x:AV,((st++[(f,(M:Int))]).map encP).set st.length x=st.map encP++[x]:=fun x=>by
       rw [List.map_append]
       have:=xUc (st.map encP) (encP (f,(M:Int))) x
       rwa [List.length_map] at this
      have gl:∀ x:AV,(st.map encP++[x]).getD st.length .top=x:=fun x=>by have:=xMJ (st.map encP) x .top;rwa [List.length_map] at this
      have tl:∀ x:AV,List.take st.length (st.map encP++[x])=st.map encP:=fun x=>by
       have:=List.take_left' (l₁:=st.map encP) (l₂:=[x]) (i:=st.length) (by simp)
       exact this
      by_cases hk:M≤h - n
      ·
       have i4:¬ ((h - n:Nat):Int)<(M:Int):=by omega
       have e1:=xJg at0 (n:Int) v (M:Int) (h:Int) f (st++[(f,(M:Int))]) st.length i3 (by rw [g0]) M (by omega) M 0 ox vo (by omega) (by omega)
       rw [L1] at e1
       obtain ⟨stk',ox',vo',e2,h1,h2,h3⟩:=xJf at0 n (c - 1) st (h - M) (ox++List.replicate M (f,at0)) v (vo+M) (by omega) hst (by omega) (by omega) (by omega) (by rw [List.length_append,List.length_replicate];omega)
       refine ⟨stk',ox',vo',(xaZ (s':=(((h - M:Nat):Int),st.length,v,(ox++List.replicate M (f,at0)).length,vo+M,v,st.map encP,vo+M,(ox++List.replicate M (f,at0)).map encP)) ?_).trans e2,h1,?_,?_⟩
       · have w3:IntKind.i64.wrap ((h:Int) - (M:Int))=((h - M:Nat):Int):=by rw [xdD (by omega) (by omega)];omega
         have w4:IntKind.i64.wrap ((M:Int) - (M:Int))=0:=by rw [Int.sub_self];rfl
         have i5:(st.length:Int)≤((st.length+1:Nat):Int):=by omega
         have e1:Iter (xcK at0 (n:Int) v st.length (M:Int) (M:Int)) ((0:Int),(h:Int),st.length+1,v,ox.length,vo,v,(st++[(f,(M:Int))]).map encP,vo,ox.map encP)=_:=e1
         simp only [xb5,xgP,xgk,xeN,xm2,xhV,xj6,xhW,xhX,xhY,xhZ,xm3,xl4,xjh,xji,xl5,xl6,xjj,xfi,xl7,xbC,List.length_map,xai,xaj,decide_true,decide_false,Bool.and_true,Bool.true_and,Bool.not_true,Bool.not_false,Int.toNat_natCast,Int.natCast_nonneg,Option.isSome_some,Option.getD_some,beq_self_eq_true,Nat.zero_add,Nat.sub_zero,L1,i1,i2,w1,w2,w3,w4,i4,i5,gf,cP0,cP1,lP,sP,sP0,sP1,tk,e1,if_false,st1,gl,tl,List.length_append,List.length_singleton,Nat.lt_succ_self,tkP,dpP,aggP,List.append_nil,List.singleton_append]
         try simp [xai,tl,gl]
       · rw [h2,xm0,List.take_append_of_le_length (by omega)]
       · rw [h3,xm0,Int.toNat_natCast,List.drop_append_of_le_length (by omega),List.reverse_append,xOT,List.map_append,List.map_replicate,List.append_assoc]
      ·
       have i4:((h - n:Nat):Int)<(M:Int):=by omega
       have e1:=xJg at0 (n:Int) v ((h - n:Nat):Int) (h:Int) f (st++[(f,(M:Int))]) st.length i3 (by rw [g0]) (h - n) (by omega) (h - n) 0 ox vo (by omega) (by omega)
       rw [L1] at e1
       refine ⟨st++[(f,((M - (h - n):Nat):Int))],ox++List.replicate (h - n) (f,at0),vo+(h - n),(xaZ (s':=((n:Int),st.length+1,v,(ox++List.replicate (h - n) (f,at0)).length,vo+(h - n),v,(st++[(f,((M - (h - n):Nat):Int))]).map encP,vo+(h - n),(ox++List.replicate (h - n) (f,at0)).map encP)) ?_).trans (xaJ ?_),?_,?_,?_⟩
       · have w3:IntKind.i64.wrap ((h:Int) - ((h - n:Nat):Int))=(n:Int):=by rw [xdD (by omega) (by omega)];omega
         have w4:IntKind.i64.wrap ((M:Int) - ((h - n:Nat):Int))=((M - (h - n):Nat):Int):=by rw [xdD (by omega) (by omega)];omega
         have i6:(((M - (h - n):Nat):Int)==0)=false:=by simp;omega
         have e1:Iter (xcK at0 (n:Int) v st.length ((h - n:Nat):Int) ((h - n:Nat):Int)) ((0:Int),(h:Int),st.length+1,v,ox.length,vo,v,(st++[(f,(M:Int))]).map encP,vo,ox.map encP)=_:=e1
         have tk2:∀ x:AV,List.take (st.length+1) (st.map encP++[x])=st.map encP++[x]:=fun x=>List.take_of_length_le (by simp)
         simp only [xb5,xgP,xgk,xeN,xm2,xhV,xj6,xhW,xhX,xhY,xhZ,xm3,xl4,xjh,xji,xl5,xl6,xjj,xfi,xl7,xbC,List.length_map,xai,xaj,decide_true,decide_false,Bool.and_true,Bool.true_and,Bool.not_true,Bool.not_false,Int.toNat_natCast,Int.natCast_nonneg,Option.isSome_some,Option.getD_some,beq_self_eq_true,Nat.zero_add,Nat.sub_zero,L1,i1,i2,w1,w2,w3,w4,i4,gf,cP0,cP1,lP,sP,sP0,sP1,tk,e1,if_true,st1,gl,tl,tk2,List.length_append,List.length_singleton,Nat.lt_succ_self,tkP,dpP,aggP,List.append_nil,List.singleton_append]
         try simp [xai,xaj,tl,tk2,gl,i6]
       · have i5:¬ ((n:Int)>(n:Int)):=by omega
         simp only [xb5,xgP,i5,decide_false,xaj,List.length_append,List.length_singleton]
       · intro s hs2
         rcases List.mem_append.1 hs2 with h1|h1
         · exact hst s h1
         · rw [List.mem_singleton] at h1;subst h1;dsimp only;omega
       · rw [xm0,xm0,Int.toNat_natCast,Int.toNat_natCast,List.take_append]
         have:(xVh st).take n=xVh st:=List.take_of_length_le (by omega)
         rw [this,List.take_replicate,show min (n - (xVh st).length) M=M - (h - n) by omega]
       · rw [xm0,Int.toNat_natCast,List.drop_append,List.drop_eq_nil_of_le (show (xVh st).length≤n by omega),List.nil_append,List.drop_replicate,xOT,List.map_replicate,show M - (n - (xVh st).length)=h - n by omega]
theorem xOZ (at0:Int) (n h:Nat) (stk ox:List Per) (hs:StOk stk) (hh:(xVh stk).length=h) (hn:n≤1048576) (hb:h≤1048576) (ho:ox.length+1048576≤1099511627776) :
  ∃ stk':List Per,set2 at0 (n:Int) (h:Int) stk.length ox.length (stk.map encP) (ox.map encP)=some ((n:Int),stk'.length,(ox++(((xVh stk).drop n).reverse.map fun f=>(f,at0))).length,stk'.map encP,(ox++(((xVh stk).drop n).reverse.map fun f=>(f,at0))).map encP) ∧
   StOk stk'∧xVh stk'=(xVh stk).take n++List.replicate (n - h) at0:=by
 have sl:=hs.len
 rw [hh] at sl
 have tk:List.take stk.length (stk.map encP)=stk.map encP:=List.take_of_length_le (by simp)
 by_cases hlt:h<n
 · have i1:(n:Int)>(h:Int):=by omega
   have w1:IntKind.i64.wrap ((n:Int) - (h:Int))=((n - h:Nat):Int):=by rw [xdD (by omega) (by omega)];omega
   have hs2:StOk (stk++[(at0,((n - h:Nat):Int))]):=fun s h1=>by
    rcases List.mem_append.1 h1 with h1|h1
    · exact hs s h1
    · rw [List.mem_singleton] at h1;subst h1;dsimp only;omega
   have hf:xVh (stk++[(at0,((n - h:Nat):Int))])=xVh stk++List.replicate (n - h) at0:=by rw [xm0,Int.toNat_natCast]
   have hfl:(xVh (stk++[(at0,((n - h:Nat):Int))])).length=n:=by rw [hf,List.length_append,List.length_replicate];omega
   obtain ⟨stk',ox',vo',e,h1,h2,h3⟩:=xJf at0 n (stk.length+1) (stk++[(at0,((n - h:Nat):Int))]) n ox 1 0 (by simp) hs2 hfl (Nat.le_refl _) hn (by omega)
   refine ⟨stk',?_,h1,?_⟩
   · have d1:(xVh stk).drop n=[]:=List.drop_eq_nil_of_le (by omega)
     have d2:(xVh (stk++[(at0,((n - h:Nat):Int))])).drop n=[]:=List.drop_eq_nil_of_le (by omega)
     rw [d2] at h3
     subst h3
     rw [d1]
     have m1:(stk.length+1)*16≤140737488355328:=by omega
     have m2:stk.length+1≤4611686018427387904:=by omega
     have tk2:List.take (stk.length+1) (stk.map encP++[AV.agg [.int .i64 at0,.int .i64 ((n - h:Nat):Int)]])=(stk++[(at0,((n - h:Nat):Int))]).map encP:=by
      rw [List.take_of_length_le (by simp),List.map_append];rfl
     rw [List.length_append,List.length_singleton] at e
     unfold set2 xpa xos
     simp only [xqp,xqq,xqr,xqs,xqt,xqu,xqv,xqw,xqy,xqz,xpb,xpc,xpd,xpe,xpf,xpg,xph,xpi,i1,w1,decide_true,xai,List.length_map,beq_self_eq_true,m1,m2,Bool.and_self,tk2,e,Option.isSome_some,Option.getD_some,Option.bind_some,Nat.beq_refl]
   · rw [h2,hf,List.take_of_length_le (by rw [←hf];omega),List.take_of_length_le (by omega)]
 · obtain ⟨stk',ox',vo',e,h1,h2,h3⟩:=xJf at0 n stk.length stk h ox 0 0 (Nat.le_refl _) hs hh (by omega) hb (by omega)
   refine ⟨stk',?_,h1,by rw [h2,show n - h=0 by omega];simp⟩
   have i1:¬ (n:Int)>(h:Int):=by omega
   subst h3
   unfold set2 xpa xos
   simp only [xqp,xqq,xqr,xqs,xqt,xqu,xqv,xqw,xqy,xqz,xpb,xpc,xpd,xpe,xpf,xpg,xph,xpi,i1,decide_false,xaj,tk,e,Option.isSome_some,Option.getD_some,xai,Option.bind_some,Nat.beq_refl,Bool.and_self]
end Go.Sim.M
end
noncomputable section
namespace Go.Sim.M
open Go.RowKit Go.Sim.Srt
def setF (s:List Int×List Per) (q:Int×Nat):List Int×List Per:=(s.1.take q.2++List.replicate (q.2 - s.1.length) q.1,s.2++((s.1.drop q.2).reverse.map fun f=>(f,q.1)))
theorem xFC {α β:Type} (A B:α→List β):∀ l:List α,(l.flatMap fun k=>A k++B k).Perm (l.flatMap A++l.flatMap B)
 | []=>List.Perm.refl _
 | a::l=>by
  rw [List.flatMap_cons,List.flatMap_cons,List.flatMap_cons]
  have ih:=xFC A B l
  refine (ih.append_left (A a++B a)).trans ?_
  rw [List.append_assoc,List.append_assoc]
  refine List.Perm.append_left _ ?_
  rw [←List.append_assoc,←List.append_assoc]
  exact List.Perm.append_right _ List.perm_append_comm
theorem xHU {β:Type} (g:Int→β):∀ (F:List Int) (H n:Nat),F.length≤H→(List.range H).flatMap (fun k=>if n≤k then (F[k]?).toList.map g else [])=(F.drop n).map g
 | [],H,n,_=>by
  rw [List.drop_nil,List.map_nil,List.flatMap_eq_nil_iff]
  intro k _
  split<;>simp
 | x::F,0,n,h=>by simp at h
 | x::F,H+1,n,h=>by
  rw [List.range_succ_eq_map,List.flatMap_cons,List.flatMap_map]
  have ih:=xHU g F H (n - 1) (by simpa using h)
  have e:(List.range H).flatMap (fun a=>if n≤a.succ then (((x::F)[a.succ]?).toList).map g else [])=(F.drop (n - 1)).map g:=by
   rw [←ih]
   congr 1
   funext a
   have:(n≤a.succ)=(n - 1≤a):=by rw [eq_iff_iff];omega
   simp only [this,List.getElem?_cons_succ,Nat.succ_eq_add_one]
  rw [e]
  cases n with
  | zero=>simp
  | succ n=>simp
structure LvI (N:Int→Nat) (H:Nat) (at':Int) (F:List Int) (out:List Per) (A:Nat→List Per):Prop where
 perm:out.Perm ((List.range H).flatMap A)
 span:∀ k,IsSpan (A k)
 low:∀ k (h:k<F.length),F[k]≤at'∧0≤F[k]∧∀ p,p∈A k→p.2<F[k]
 high:∀ k,F.length≤k→∀ p,p∈A k→p.2≤at'
 cov:∀ k t,t≤at'→((inL (A k) t=true∨∃ h:k<F.length,F[k]≤t)↔k<N t)
 len:F.length=N at'
 top:F.length≤H
theorem LvI.start {N:Int→Nat} {H:Nat} (h0:∀ t,t<0→N t=0):LvI N H (-1) [] [] fun _=>[] where
 perm:=by
  have:(List.range H).flatMap (fun _=>([]:List Per))=[]:=by simp
  rw [this]
 span _:=xu6
 low k h:=by simp at h
 high k _ p hp:=by simp at hp
 cov k t ht:=by rw [h0 t (by omega),xre];simp
 len:=by rw [h0 _ (by omega)];rfl
 top:=Nat.zero_le _
theorem LvI.set {N:Int→Nat} {H:Nat} {a b:Int} {F:List Int} {out:List Per} {A:Nat→List Per} (h:LvI N H a F out A) (hab:a<b) (h0:0≤b) (hb:b≤1099511627776) (hc:∀ t,a≤t→t<b→N t=N a) (hH:N b≤H) :
  ∃ A',LvI N H b (setF (F,out) (b,N b)).1 (setF (F,out) (b,N b)).2 A':=by
 have hl:=h.len
 refine ⟨fun k=>A k++(if N b≤k then (F[k]?).toList.map (fun f=>(f,b)) else []),?_,?_,?_,?_,?_,?_,?_⟩
 · refine (List.Perm.append h.perm ?_).trans (xFC A _ _).symm
   rw [xHU (fun f=>(f,b)) F H (N b) h.top]
   exact (List.reverse_perm _).map _
 · intro k
   by_cases hk:N b≤k
   · rw [if_pos hk]
     by_cases hkF:k<F.length
     · obtain ⟨l1,l2,l3⟩:=h.low k hkF
       rw [List.getElem?_eq_getElem hkF]
       refine ⟨fun p hp=>?_,List.pairwise_append.2 ⟨(h.span k).2,by simp,fun p hp q hq=>?_⟩⟩
       · rcases List.mem_append.1 hp with hp|hp
         · exact (h.span k).1 p hp
         · simp at hp;subst hp;exact xeO.2 ⟨l2,by dsimp only;omega,hb⟩
       · simp at hq;subst hq;exact l3 p hp
     · rw [List.getElem?_eq_none (by omega)];simpa using h.span k
   · rw [if_neg hk,List.append_nil];exact h.span k
 · intro k hk
   simp only [setF] at hk ⊢
   rw [List.length_append,List.length_take,List.length_replicate] at hk
   have hkn:¬ N b≤k:=by omega
   simp only [hkn,if_false,List.append_nil]
   by_cases hkF:k<F.length
   · rw [List.getElem_append_left (by rw [List.length_take];omega),List.getElem_take]
     obtain ⟨l1,l2,l3⟩:=h.low k hkF
     exact ⟨by omega,l2,l3⟩
   · rw [List.getElem_append_right (by rw [List.length_take];omega),List.getElem_replicate]
     exact ⟨Int.le_refl _,h0,fun p hp=>by have:=h.high k (by omega) p hp;omega⟩
 · intro k hk p hp
   simp only [setF] at hk
   rw [List.length_append,List.length_take,List.length_replicate] at hk
   have hkn:N b≤k:=by omega
   simp only [hkn,if_true] at hp
   by_cases hkF:k<F.length
   · rw [List.getElem?_eq_getElem hkF] at hp
     rcases List.mem_append.1 hp with hp|hp
     · obtain ⟨l1,l2,l3⟩:=h.low k hkF
       have:=l3 p hp;omega
     · simp at hp;subst hp;exact Int.le_refl _
   · rw [List.getElem?_eq_none (by omega)] at hp
     simp at hp
     have:=h.high k (by omega) p hp;omega
 · intro k t ht
   have hF1:(setF (F,out) (b,N b)).1=F.take (N b)++List.replicate (N b - F.length) b:=rfl
   have key:(∃ hh:k<(setF (F,out) (b,N b)).1.length,(setF (F,out) (b,N b)).1[k]≤t)↔(k<N b∧((∃ hh:k<F.length,F[k]≤t)∨(F.length≤k∧b≤t))):=by
    constructor
    · rintro ⟨hh,hle⟩
      have hh':=hh
      rw [hF1,List.length_append,List.length_take,List.length_replicate] at hh'
      refine ⟨by omega,?_⟩
      by_cases hkF:k<F.length
      · refine .inl ⟨hkF,?_⟩
        have e:(setF (F,out) (b,N b)).1[k]=F[k]:=by
         simp only [hF1]
         rw [List.getElem_append_left (by rw [List.length_take];omega),List.getElem_take]
        rw [←e];exact hle
      · refine .inr ⟨by omega,?_⟩
        have e:(setF (F,out) (b,N b)).1[k]=b:=by
         simp only [hF1]
         rw [List.getElem_append_right (by rw [List.length_take];omega),List.getElem_replicate]
        rw [←e];exact hle
    · rintro ⟨h1,h2⟩
      have hh:k<(setF (F,out) (b,N b)).1.length:=by rw [hF1,List.length_append,List.length_take,List.length_replicate];omega
      refine ⟨hh,?_⟩
      rcases h2 with ⟨hkF,hle⟩|⟨hkF,hle⟩
      · have e:(setF (F,out) (b,N b)).1[k]=F[k]:=by
         simp only [hF1]
         rw [List.getElem_append_left (by rw [List.length_take];omega),List.getElem_take]
        rw [e];exact hle
      · have e:(setF (F,out) (b,N b)).1[k]=b:=by
         simp only [hF1]
         rw [List.getElem_append_right (by rw [List.length_take];omega),List.getElem_replicate]
        rw [e];exact hle
   rw [key]
   have key2:inL (A k++(if N b≤k then (F[k]?).toList.map (fun f=>(f,b)) else [])) t=true↔inL (A k) t=true∨(N b≤k∧(∃ hh:k<F.length,F[k]≤t)∧t<b):=by
    rw [xrR,Bool.or_eq_true]
    refine or_congr Iff.rfl ?_
    by_cases hkn:N b≤k
    · rw [if_pos hkn]
      by_cases hkF:k<F.length
      · obtain ⟨l1,l2,l3⟩:=h.low k hkF
        rw [List.getElem?_eq_getElem hkF]
        have e:inL ((some F[k]).toList.map fun f=>(f,b)) t=hasP (F[k],b) t:=by simp [inL]
        rw [e,xeM,xeO]
        dsimp only
        constructor
        · rintro ⟨_,h2,h3⟩;exact ⟨hkn,⟨hkF,h2⟩,h3⟩
        · rintro ⟨_,⟨_,h2⟩,h3⟩;exact ⟨⟨l2,by omega,hb⟩,h2,h3⟩
      · rw [List.getElem?_eq_none (by omega)]
        simp only [Option.toList_none,List.map_nil,xre,Bool.false_eq_true,false_iff]
        rintro ⟨_,⟨hh,_⟩,_⟩;omega
    · rw [if_neg hkn,xre]
      simp only [Bool.false_eq_true,false_iff]
      rintro ⟨hh,_⟩;omega
   rw [key2]
   by_cases hta:t≤a
   · have hcov:=h.cov k t hta
     rw [←hcov]
     constructor
     · rintro ((h1|⟨_,h2,_⟩)|⟨_,h2|⟨_,h3⟩⟩)
       · exact .inl h1
       · exact .inr h2
       · exact .inr h2
       · omega
     · rintro (h1|h2)
       · exact .inl (.inl h1)
       · by_cases hkn:N b≤k
         · exact .inl (.inr ⟨hkn,h2,by omega⟩)
         · exact .inr ⟨by omega,.inl h2⟩
   · have hin:inL (A k) t=true→False:=fun hi=>by
      obtain ⟨p,hp,_,p1,p2⟩:=xjV.1 hi
      by_cases hkF:k<F.length
      · obtain ⟨l1,l2,l3⟩:=h.low k hkF
        have:=l3 p hp;omega
      · have:=h.high k (by omega) p hp;omega
     have hex:(∃ hh:k<F.length,F[k]≤t)↔k<F.length:=⟨fun ⟨hh,_⟩=>hh,fun hh=>⟨hh,by have:=(h.low k hh).1;omega⟩⟩
     rw [hex]
     by_cases htb:t<b
     · rw [hc t (by omega) htb,←hl]
       constructor
       · rintro ((h1|⟨_,h2,_⟩)|⟨_,h2|⟨_,h3⟩⟩)
         · exact (hin h1).elim
         · exact h2
         · exact h2
         · omega
       · intro hkF
         by_cases hkn:N b≤k
         · exact .inl (.inr ⟨hkn,hkF,htb⟩)
         · exact .inr ⟨by omega,.inl hkF⟩
     · obtain rfl:t=b:=by omega
       constructor
       · rintro ((h1|⟨_,_,h2⟩)|⟨h1,_⟩)
         · exact (hin h1).elim
         · omega
         · exact h1
       · intro hk
         refine .inr ⟨hk,?_⟩
         by_cases hkF:k<F.length
         · exact .inl hkF
         · exact .inr ⟨by omega,Int.le_refl _⟩
 · show (F.take (N b)++List.replicate (N b - F.length) b).length=N b
   rw [List.length_append,List.length_take,List.length_replicate];omega
 · show (F.take (N b)++List.replicate (N b - F.length) b).length≤H
   rw [List.length_append,List.length_take,List.length_replicate];omega
theorem xwE {N:Int→Nat} {a b:Int} (h:∀ t,a<t→t<b→N (t - 1)=N t):∀ (d:Nat) (t:Int),t=a+d→t<b→N t=N a
 | 0,t,e,_=>by rw [e];simp
 | d+1,t,e,hb=>by
  rw [←h t (by omega) hb]
  exact xwE h d (t - 1) (by omega) (by omega)
theorem xMS {N:Int→Nat} {H:Nat} (hH:∀ t,N t≤H):∀ (R:List Per) (a:Int) (F:List Int) (out:List Per) (A:Nat→List Per),LvI N H a F out A→-1≤a→a<1099511627776→(∀ s,s∈R→a<s.1∧s.1<1099511627776∧s.2=(N s.1:Int))→R.Pairwise (fun x y=>x.1<y.1) →
  (∀ t,a<t→t<1099511627776→N (t - 1)≠N t→∃ s,s∈R∧s.1=t)→∃ (a':Int) (A':Nat→List Per),LvI N H a' (R.foldl (fun x s=>setF x (s.1,s.2.toNat)) (F,out)).1 (R.foldl (fun x s=>setF x (s.1,s.2.toNat)) (F,out)).2 A'∧-1≤a'∧a'<1099511627776∧∀ t,a'<t→t<1099511627776→N (t - 1)=N t
 | [],a,F,out,A,h,h1,h2,_,_,hm=>⟨a,A,h,h1,h2,fun t t1 t2=>by
  by_cases e:N (t - 1)=N t
  · exact e
  · obtain ⟨s,hs,_⟩:=hm t t1 t2 e
    simp at hs⟩
 | s::R,a,F,out,A,h,h1,h2,hr,hp,hm=>by
  obtain ⟨s1,s2,s3⟩:=hr s (by simp)
  obtain ⟨p1,p2⟩:=List.pairwise_cons.1 hp
  obtain ⟨A',h'⟩:=h.set (b:=s.1) s1 (by omega) (by omega) (fun t t1 t2=>xwE (a:=a) (b:=s.1) (fun u u1 u2=>by
   by_cases e:N (u - 1)=N u
   · exact e
   · obtain ⟨q,hq,hqt⟩:=hm u u1 (by omega) e
     rcases List.mem_cons.1 hq with rfl|hq
     · omega
     · have:=p1 q hq;omega) (t - a).toNat t (by omega) t2) (hH _)
  rw [List.foldl_cons]
  have e:setF (F,out) (s.1,s.2.toNat)=setF (F,out) (s.1,N s.1):=by rw [s3,Int.toNat_natCast]
  rw [e]
  obtain ⟨a',A2,g1,g2,g3,g4⟩:=xMS hH R s.1 _ _ A' h' (by omega) s2 (fun q hq=>⟨p1 q hq,(hr q (by simp [hq])).2⟩) p2 (fun t t1 t2 e=>by
   obtain ⟨q,hq,hqt⟩:=hm t (by omega) t2 e
   rcases List.mem_cons.1 hq with rfl|hq
   · omega
   · exact ⟨q,hq,hqt⟩)
  exact ⟨a',A2,g1,g2,g3,g4⟩
theorem xSG {N:Int→Nat} {H:Nat} (hH:∀ t,N t≤H) (h0:∀ t,t<0∨1099511627776≤t→N t=0) {S:List Per} (hS:StepI (fun t=>(N t:Int)) 1099511627776 S) {P:List Per} (hP:P.Perm (setF (S.foldl (fun x s=>setF x (s.1,s.2.toNat)) ([],[])) (1099511627776,0)).2) (hs:Sorted cmpP P):IsLevs N P:=by
 obtain ⟨a,A,g1,g2,g3,g4⟩:=xMS hH S (-1) [] [] _ (LvI.start fun t ht=>h0 t (.inl ht)) (by omega) (by omega) (fun s hs=>by
  obtain ⟨m1,m2,m3,_⟩:=(hS.mem s).1 hs
  exact ⟨by omega,m2,m3⟩) hS.asc (fun t t1 t2 e=>by
  refine ⟨(t,(N t:Int)),(hS.mem _).2 ⟨by dsimp only;omega,t2,rfl,?_⟩,rfl⟩
  refine .inr ?_
  dsimp only
  omega)
 have hz:N 1099511627776=0:=h0 _ (.inr (Int.le_refl _))
 obtain ⟨A',h'⟩:=g1.set (b:=1099511627776) g3 (by omega) (by omega) (fun t t1 t2=>xwE (fun u u1 u2=>g4 u u1 u2) (t - a).toNat t (by omega) t2) (hH _)
 rw [hz] at h'
 have hF:=h'.len
 rw [hz] at hF
 refine ⟨hs,A',H,hH,fun k=>⟨h'.span k,fun t=>?_⟩,hP.trans h'.perm⟩
 rw [Bool.eq_iff_iff,decide_eq_true_eq]
 by_cases ht:t≤1099511627776
 · rw [←h'.cov k t ht]
   refine ⟨Or.inl,fun hh=>hh.elim id fun ⟨hk,_⟩=>?_⟩
   rw [hF] at hk;omega
 · rw [h0 t (.inr (by omega))]
   refine ⟨fun hi=>?_,fun hh=>by omega⟩
   have:=(xJc hi).2;omega
end Go.Sim.M
end
noncomputable section
set_option maxRecDepth 100000
namespace Go.Sim.M
open Go.RowKit Go.Sim.Srt
section
variable {α : Type} {enc : α → AV} {okE : AV → Bool} {ldE : AV → AV}
theorem gR {l:List α} {i:Nat} {x:α} (h:l[i]?=some x):(List.map enc l).getD i .top=enc x:=by
 simp [List.getD,h]
theorem setR (l:List α) (i:Nat) (x:α):(List.map enc l).set i (enc x)=List.map enc (l.set i x):=by
 simp [List.map_set]
theorem xot {l:List α} {i:Nat} {x:α} (h:l[i]?=some x):i<l.length:=(List.getElem?_eq_some_iff.1 h).1
theorem xgg {l:List α} {i:Nat} {x:α} (h:l[i]?=some x):x∈l:=List.mem_of_getElem? h
theorem xSI {l:List α} {i j:Nat} {x y:α} (hx:x∈l) (hy:y∈l) {z:α} (h:z∈(l.set i y).set j x):z∈l:=by
 rcases List.mem_or_eq_of_mem_set h with h|rfl
 · rcases List.mem_or_eq_of_mem_set h with h|rfl
   · exact h
   · exact hy
 · exact hx
theorem w64 {x:Int} {n:Nat} (h:x=(n:Int)) (hn:n≤9223372036854775807):IntKind.i64.wrap x=(n:Int):=by
 rw [xdD (by omega) (by omega)];exact h
theorem xVT {i j:Nat} (h:i+j≤9223372036854775807):IntKind.i64.wrap ((IntKind.u64.wrap (IntKind.i64.wrap ((i:Int)+(j:Int)))).fdiv 2)=(((i+j) / 2:Nat):Int):=by
 rw [xdD (n:=(i:Int)+(j:Int)) (by omega) (by omega)]
 have hu:IntKind.u64.wrap ((i:Int)+(j:Int))=(i:Int)+(j:Int):=by
  unfold IntKind.wrap IntKind.bits IntKind.signed;simp;omega
 rw [hu,Int.fdiv_eq_ediv_of_nonneg _ (by omega)]
 exact w64 (by omega) (by omega)
structure LOk (N:Nat) (ok:α→Prop) (l:List α):Prop where
 len:l.length=N
 ok:∀ x,x∈l→ok x
theorem LOk.set2 {N:Nat} {ok:α→Prop} {l:List α} (h:LOk N ok l) {i j:Nat} {x y:α} (hx:x∈l) (hy:y∈l):LOk N ok ((l.set i y).set j x) :=
 ⟨by simp [h.len],fun z hz=>h.ok z (xSI hx hy hz)⟩
theorem LOk.perm {N:Nat} {ok:α→Prop} {l l':List α} (h:LOk N ok l) (hp:l'.Perm l):LOk N ok l' :=
 ⟨hp.length_eq.trans h.len,fun z hz=>h.ok z (hp.mem_iff.1 hz)⟩
theorem xkx {σ ρ σ' ρ':Type} {p:σ→Option (σ⊕ρ)} {g:σ'→Option (σ'⊕ρ')} (I:σ→Prop) (J:ρ→Prop) (e:σ→σ') (f:ρ→ρ')
  (h:∀ s,I s→(∀ s',p s=some (.inl s')→g (e s)=some (.inl (e s'))∧I s')∧(∀ r,p s=some (.inr r)→g (e s)=some (.inr (f r))∧J r)) {s:σ} {r:ρ} (hI:I s) (hr:Iter p s=some r):Iter g (e s)=some (f r)∧J r:=by
 obtain ⟨n,hn⟩:=xtj.1 hr
 clear hr
 induction n generalizing s with
 | zero=>simp [iterN] at hn
 | succ n ih =>
  unfold iterN at hn
  obtain ⟨h1,h2⟩:=h s hI
  split at hn
  · rename_i s' hs
    obtain ⟨h3,h4⟩:=h1 s' hs
    rw [xaZ h3]
    exact ih h4 hn
  · rename_i r' hs
    simp only [Option.some.injEq] at hn
    subst hn
    obtain ⟨h3,h4⟩:=h2 _ hs
    exact ⟨xaJ h3,h4⟩
  · simp at hn
theorem xqo {σ ρ σ' ρ':Type} {p:Option (σ⊕ρ)} {g:Option (σ'⊕ρ')} {I:σ→Prop} {J:ρ→Prop} {e:σ→σ'} {f:ρ→ρ'} {s0:σ} (hp:p=some (.inl s0)) (hg:g=some (.inl (e s0))) (hI:I s0) :
  (∀ s',p=some (.inl s')→g=some (.inl (e s'))∧I s')∧(∀ r,p=some (.inr r)→g=some (.inr (f r))∧J r) :=
 ⟨fun s' h=>by rw [hp] at h;simp only [Option.some.injEq,Sum.inl.injEq] at h;subst h;exact ⟨hg,hI⟩,fun r h=>by rw [hp] at h;simp at h⟩
theorem xp8 {σ ρ σ' ρ':Type} {p:Option (σ⊕ρ)} {g:Option (σ'⊕ρ')} {I:σ→Prop} {J:ρ→Prop} {e:σ→σ'} {f:ρ→ρ'} {r0:ρ} (hp:p=some (.inr r0)) (hg:g=some (.inr (f r0))) (hJ:J r0) :
  (∀ s',p=some (.inl s')→g=some (.inl (e s'))∧I s')∧(∀ r,p=some (.inr r)→g=some (.inr (f r))∧J r) :=
 ⟨fun s' h=>by rw [hp] at h;simp at h,fun r h=>by rw [hp] at h;simp only [Option.some.injEq,Sum.inr.injEq] at h;subst h;exact ⟨hg,hJ⟩⟩
theorem xg4 {σ ρ σ' ρ':Type} {p:Option (σ⊕ρ)} {g:Option (σ'⊕ρ')} {I:σ→Prop} {J:ρ→Prop} {e:σ→σ'} {f:ρ→ρ'} (hp:p=none) :
  (∀ s',p=some (.inl s')→g=some (.inl (e s'))∧I s')∧(∀ r,p=some (.inr r)→g=some (.inr (f r))∧J r) :=
 ⟨fun s' h=>by rw [hp] at h;simp at h,fun r h=>by rw [hp] at h;simp at h⟩
theorem xUd {N:Nat} (he:∀ a,okE (enc a)=true) (hd:∀ a,ldE (enc a)=enc a) (hN:N≤2 ^ 60) {ok:α→Prop} {c:α→α→Int} {P:AV→AV→Bool} {V:AV→AV→Int} (hc:∀ x y,ok x→ok y→P (enc x) (enc y)=true∧V (enc x) (enc y)=c x y)
  {g:Int×List AV→Option ((Int×List AV)⊕List AV)} (a:Nat)
  (hg:∀ (j:Int) (xs:List AV),g (j,xs)=br (decide (j>(a:Int))) (br (decide ((0:Int)≤j)&&decide (j<(N:Int))) (br (decide ((0:Nat)+j.toNat<xs.length)&&okE (xs.getD ((0:Nat)+j.toNat) AV.top))
   (br (decide ((0:Int)≤IntKind.i64.wrap (j - 1))&&decide (IntKind.i64.wrap (j - 1)<(N:Int))) (br (decide ((0:Nat)+(IntKind.i64.wrap (j - 1)).toNat<xs.length)&&okE (xs.getD ((0:Nat)+(IntKind.i64.wrap (j - 1)).toNat) AV.top))
   (br (P (xs.getD ((0:Nat)+j.toNat) AV.top) (xs.getD ((0:Nat)+(IntKind.i64.wrap (j - 1)).toNat) AV.top))
   (br (decide (V (xs.getD ((0:Nat)+j.toNat) AV.top) (xs.getD ((0:Nat)+(IntKind.i64.wrap (j - 1)).toNat) AV.top)<0))
   (br (decide ((0:Int)≤IntKind.i64.wrap (j - 1))&&decide (IntKind.i64.wrap (j - 1)<(N:Int))) (br (decide ((0:Nat)+(IntKind.i64.wrap (j - 1)).toNat<xs.length)&&okE (xs.getD ((0:Nat)+(IntKind.i64.wrap (j - 1)).toNat) AV.top))
   (br (decide ((0:Int)≤j)&&decide (j<(N:Int))) (br (decide ((0:Nat)+j.toNat<xs.length)&&okE (xs.getD ((0:Nat)+j.toNat) AV.top))
   (br (decide ((0:Int)≤j)&&decide (j<(N:Int))) (br (decide ((0:Nat)+j.toNat<xs.length)) (br (decide ((0:Int)≤IntKind.i64.wrap (j - 1))&&decide (IntKind.i64.wrap (j - 1)<(N:Int)))
   (br (decide ((0:Nat)+(IntKind.i64.wrap (j - 1)).toNat<(xs.set ((0:Nat)+j.toNat) (ldE (xs.getD ((0:Nat)+(IntKind.i64.wrap (j - 1)).toNat) AV.top))).length))
    (some (.inl (IntKind.i64.wrap (j - 1),(xs.set ((0:Nat)+j.toNat) (ldE (xs.getD ((0:Nat)+(IntKind.i64.wrap (j - 1)).toNat) AV.top))).set ((0:Nat)+(IntKind.i64.wrap (j - 1)).toNat) (ldE (xs.getD ((0:Nat)+j.toNat) AV.top)))))
    none) none) none) none) none) none) none) none) (some (.inr xs))) none) none) none) none) none) (some (.inr xs)))
  {j:Nat} {l r:List α} (hl:LOk N ok l) (hr:Iter (xVj c a) (j,l)=some r):Iter g ((j:Int),List.map enc l)=some (List.map enc r)∧LOk N ok r:=by
 refine xkx (I:=fun s=>LOk N ok s.2) (J:=LOk N ok) (e:=fun s=>((s.1:Int),List.map enc s.2)) (f:=List.map enc) ?_ (s:=(j,l)) hl hr
 rintro ⟨j,l⟩ (hl:LOk N ok l)
 have hlen:l.length=N:=hl.len
 by_cases ha:a<j
 · cases hx:l[j]? with
   | none=>exact xg4 (by simp [xVj,ha,hx])
   | some x =>
    cases hy:l[j - 1]? with
    | none=>exact xg4 (by simp [xVj,ha,hx,hy])
    | some y =>
     have hj:=xot hx
     have hj1:=xot hy
     have w1:IntKind.i64.wrap ((j:Int) - 1)=((j - 1:Nat):Int):=w64 (by omega) (by omega)
     obtain ⟨c1,c2⟩:=hc x y (hl.ok _ (xgg hx)) (hl.ok _ (xgg hy))
     have k1:(j:Int)<(N:Int):=by omega
     have k2:((j - 1:Nat):Int)<(N:Int):=by omega
     have k3:(j:Int)>(a:Int):=by omega
     have k4:j<(List.map enc l).length:=by simpa using hj
     have k5:j - 1<(List.map enc l).length:=by simpa using hj1
     by_cases hlt:c x y<0
     · have hp:xVj c a (j,l)=some (.inl (j - 1,(l.set j y).set (j - 1) x)):=by simp [xVj,ha,hx,hy,hlt]
       have hgg:g ((j:Int),List.map enc l)=some (.inl (((j - 1:Nat):Int),List.map enc ((l.set j y).set (j - 1) x))):=by
        rw [hg]
        simp only [w1,Int.toNat_natCast,Nat.zero_add,gR hx,gR hy,he,hd,c1,c2,setR,hlt,k1,k2,k3,k4,k5,decide_true,Bool.and_true,xai,Int.natCast_nonneg,List.length_map,List.length_set,hj,hj1]
       exact xqo hp hgg (hl.set2 (xgg hx) (xgg hy))
     · have hp:xVj c a (j,l)=some (.inr l):=by simp [xVj,ha,hx,hy,hlt]
       have hgg:g ((j:Int),List.map enc l)=some (.inr (List.map enc l)):=by
        rw [hg]
        simp only [w1,Int.toNat_natCast,Nat.zero_add,gR hx,gR hy,he,hd,c1,c2,setR,hlt,k1,k2,k3,k4,k5,decide_true,decide_false,Bool.and_true,xai,xaj,Int.natCast_nonneg]
       exact xp8 hp hgg hl
 · have hp:xVj c a (j,l)=some (.inr l):=by simp [xVj,ha]
   have k3:¬ ((j:Int)>(a:Int)):=by omega
   have hgg:g ((j:Int),List.map enc l)=some (.inr (List.map enc l)):=by
    rw [hg]
    simp only [k3,decide_false,xaj]
   exact xp8 hp hgg hl
def xchK {T:Type} (okE:AV→Bool) (ldE:AV→AV) (N:Nat) (u v:Int) (xs:List AV) (δ:T) (κ:List AV→T):T :=
 br (decide ((0:Int)≤v)&&decide (v<(N:Int))) (br (decide ((0:Nat)+v.toNat<xs.length)&&okE (xs.getD ((0:Nat)+v.toNat) AV.top))
 (br (decide ((0:Int)≤u)&&decide (u<(N:Int))) (br (decide ((0:Nat)+u.toNat<xs.length)&&okE (xs.getD ((0:Nat)+u.toNat) AV.top))
 (br (decide ((0:Int)≤u)&&decide (u<(N:Int))) (br (decide ((0:Nat)+u.toNat<xs.length)) (br (decide ((0:Int)≤v)&&decide (v<(N:Int)))
 (br (decide ((0:Nat)+v.toNat<(xs.set ((0:Nat)+u.toNat) (ldE (xs.getD ((0:Nat)+v.toNat) AV.top))).length))
  (κ ((xs.set ((0:Nat)+u.toNat) (ldE (xs.getD ((0:Nat)+v.toNat) AV.top))).set ((0:Nat)+v.toNat) (ldE (xs.getD ((0:Nat)+u.toNat) AV.top))))
  δ) δ) δ) δ) δ) δ) δ) δ
theorem xNv {T:Type} {N:Nat} (he:∀ a,okE (enc a)=true) (hd:∀ a,ldE (enc a)=enc a)  {l:List α} (hl:l.length=N) {i j:Nat} {x y:α} (hx:l[i]?=some x) (hy:l[j]?=some y) {δ:T} {κ:List AV→T}:xchK okE ldE N (i:Int) (j:Int) (List.map enc l) δ κ=κ (List.map enc ((l.set i y).set j x)):=by
 have h1:=xot hx
 have h2:=xot hy
 have k1:(i:Int)<(N:Int):=by omega
 have k2:(j:Int)<(N:Int):=by omega
 have k4:i<(List.map enc l).length:=by simpa using h1
 have k5:j<(List.map enc l).length:=by simpa using h2
 unfold xchK
 simp only [Int.toNat_natCast,Nat.zero_add,gR hx,gR hy,he,hd,setR,k1,k2,k4,k5,decide_true,Bool.and_true,xai,Int.natCast_nonneg,List.length_map,List.length_set,h1,h2]
theorem xUf {N:Nat} (he:∀ a,okE (enc a)=true) (hd:∀ a,ldE (enc a)=enc a) (hN:N≤2 ^ 60) {ok:α→Prop} {g:Int×List AV→Option ((Int×List AV)⊕List AV)} (a b n:Nat) (ha:a≤2 ^ 60) (hb:b≤2 ^ 60) (hn:n≤2 ^ 60)
  (hg:∀ (i:Int) (xs:List AV),g (i,xs)=br (decide (i<(n:Int))) (xchK okE ldE N (IntKind.i64.wrap ((a:Int)+i)) (IntKind.i64.wrap ((b:Int)+i)) xs none fun ys=>some (.inl (IntKind.i64.wrap (i+1),ys))) (some (.inr xs)))
  {l r:List α} (hl:LOk N ok l) (hr:swr a b n l=some r):Iter g ((0:Int),List.map enc l)=some (List.map enc r)∧LOk N ok r:=by
 refine xkx (I:=fun s=>LOk N ok s.2) (J:=LOk N ok) (e:=fun s=>((s.1:Int),List.map enc s.2)) (f:=List.map enc) ?_ (s:=(0,l)) hl hr
 rintro ⟨i,l⟩ (hl:LOk N ok l)
 by_cases hi:i<n
 · cases hx:l[a+i]? with
   | none=>exact xg4 (by simp [xVw,hi,hx])
   | some x =>
    cases hy:l[b+i]? with
    | none=>exact xg4 (by simp [xVw,hi,hx,hy])
    | some y =>
     refine xqo (s0:=(i+1,(l.set (a+i) y).set (b+i) x)) (by simp [xVw,hi,hx,hy]) ?_ (hl.set2 (xgg hx) (xgg hy))
     rw [hg,show decide ((i:Int)<(n:Int))=true by simp [hi],xai,w64 (n:=a+i) (by omega) (by omega),w64 (n:=b+i) (by omega) (by omega),xNv he hd hl.len hx hy,w64 (n:=i+1) (by omega) (by omega)]
 · refine xp8 (r0:=l) (by simp [xVw,hi]) ?_ hl
   rw [hg,show decide ((i:Int)<(n:Int))=false by simp;omega,xaj]
theorem xUX {N:Nat} (he:∀ a,okE (enc a)=true) (hd:∀ a,ldE (enc a)=enc a) (hN:N≤2 ^ 60) {ok:α→Prop} {g:Int×List AV→Option ((Int×List AV)⊕List AV)} (e i:Nat) (hi:i=e+1) (hee:e≤2 ^ 60)
  (hg:∀ (k:Int) (xs:List AV),g (k,xs)=br (decide (k<IntKind.i64.wrap ((i:Int) - 1))) (xchK okE ldE N k (IntKind.i64.wrap (k+1)) xs none fun ys=>some (.inl (IntKind.i64.wrap (k+1),ys))) (some (.inr xs)))
  {k:Nat} {l r:List α} (hl:LOk N ok l) (hr:Iter (xVz e) (k,l)=some r):Iter g ((k:Int),List.map enc l)=some (List.map enc r)∧LOk N ok r:=by
 refine xkx (I:=fun s=>LOk N ok s.2) (J:=LOk N ok) (e:=fun s=>((s.1:Int),List.map enc s.2)) (f:=List.map enc) ?_ (s:=(k,l)) hl hr
 rintro ⟨k,l⟩ (hl:LOk N ok l)
 have we:IntKind.i64.wrap ((i:Int) - 1)=(e:Int):=w64 (by omega) (by omega)
 by_cases hk:k<e
 · cases hx:l[k]? with
   | none=>exact xg4 (by simp [xVz,hk,hx])
   | some x =>
    cases hy:l[k+1]? with
    | none=>exact xg4 (by simp [xVz,hk,hx,hy])
    | some y =>
     refine xqo (s0:=(k+1,(l.set k y).set (k+1) x)) (by simp [xVz,hk,hx,hy]) ?_ (hl.set2 (xgg hx) (xgg hy))
     rw [hg,we,show decide ((k:Int)<(e:Int))=true by simp [hk],xai,w64 (n:=k+1) (by omega) (by omega),xNv he hd hl.len hx hy]
 · refine xp8 (r0:=l) (by simp [xVz,hk]) ?_ hl
   rw [hg,we,show decide ((k:Int)<(e:Int))=false by simp;omega,xaj]
theorem xS3 {N:Nat} (he:∀ a,okE (enc a)=true) (hd:∀ a,ldE (enc a)=enc a) (hN:N≤2 ^ 60) {ok:α→Prop} {g:Int×List AV→Option ((Int×List AV)⊕List AV)} (e:Nat)
  (hg:∀ (k:Int) (xs:List AV),g (k,xs)=br (decide (k>(e:Int))) (xchK okE ldE N k (IntKind.i64.wrap (k - 1)) xs none fun ys=>some (.inl (IntKind.i64.wrap (k - 1),ys))) (some (.inr xs)))
  {k:Nat} {l r:List α} (hl:LOk N ok l) (hr:Iter (xVo e) (k,l)=some r):Iter g ((k:Int),List.map enc l)=some (List.map enc r)∧LOk N ok r:=by
 refine xkx (I:=fun s=>LOk N ok s.2) (J:=LOk N ok) (e:=fun s=>((s.1:Int),List.map enc s.2)) (f:=List.map enc) ?_ (s:=(k,l)) hl hr
 rintro ⟨k,l⟩ (hl:LOk N ok l)
 by_cases hk:e<k
 · cases hx:l[k]? with
   | none=>exact xg4 (by simp [xVo,hk,hx])
   | some x =>
    cases hy:l[k - 1]? with
    | none=>exact xg4 (by simp [xVo,hk,hx,hy])
    | some y =>
     have hlen:=hl.len
     have:=xot hx
     refine xqo (s0:=(k - 1,(l.set k y).set (k - 1) x)) (by simp [xVo,hk,hx,hy]) ?_ (hl.set2 (xgg hx) (xgg hy))
     rw [hg,show decide ((k:Int)>(e:Int))=true by simp [hk],xai,w64 (x:=(k:Int) - 1) (n:=k - 1) (by omega) (by omega),xNv he hd hl.len hx hy]
 · refine xp8 (r0:=l) (by simp [xVo,hk]) ?_ hl
   rw [hg,show decide ((k:Int)>(e:Int))=false by simp;omega,xaj]
def cmpK {T:Type} (okE:AV→Bool) (N:Nat) (P:AV→AV→Bool) (u v:Int) (xs:List AV) (δ:T) (κ:AV→AV→T):T :=
 br (decide ((0:Int)≤u)&&decide (u<(N:Int))) (br (decide ((0:Nat)+u.toNat<xs.length)&&okE (xs.getD ((0:Nat)+u.toNat) AV.top))
 (br (decide ((0:Int)≤v)&&decide (v<(N:Int))) (br (decide ((0:Nat)+v.toNat<xs.length)&&okE (xs.getD ((0:Nat)+v.toNat) AV.top))
 (br (P (xs.getD ((0:Nat)+u.toNat) AV.top) (xs.getD ((0:Nat)+v.toNat) AV.top))
  (κ (xs.getD ((0:Nat)+u.toNat) AV.top) (xs.getD ((0:Nat)+v.toNat) AV.top)) δ) δ) δ) δ) δ
theorem xTP {T:Type} {N:Nat} (he:∀ a,okE (enc a)=true)  {P:AV→AV→Bool} {l:List α} (hl:l.length=N) {i j:Nat} {x y:α} (hx:l[i]?=some x) (hy:l[j]?=some y) (hP:P (enc x) (enc y)=true) {δ:T} {κ:AV→AV→T}:cmpK okE N P (i:Int) (j:Int) (List.map enc l) δ κ=κ (enc x) (enc y):=by
 have h1:=xot hx
 have h2:=xot hy
 have k1:(i:Int)<(N:Int):=by omega
 have k2:(j:Int)<(N:Int):=by omega
 have k4:i<(List.map enc l).length:=by simpa using h1
 have k5:j<(List.map enc l).length:=by simpa using h2
 unfold cmpK
 simp only [Int.toNat_natCast,Nat.zero_add,gR hx,gR hy,he,hP,k1,k2,k4,k5,decide_true,Bool.and_true,xai,Int.natCast_nonneg]
def xVL (i j:Int):Int:=IntKind.i64.wrap ((IntKind.u64.wrap (IntKind.i64.wrap (i+j))).fdiv 2)
theorem xNi {N:Nat} (he:∀ a,okE (enc a)=true) (hN:N≤2 ^ 60) {ok:α→Prop} {c:α→α→Int} {P:AV→AV→Bool} {V:AV→AV→Int} (hc:∀ x y,ok x→ok y→P (enc x) (enc y)=true∧V (enc x) (enc y)=c x y)
  {g:Int×Int×List AV→Option ((Int×Int×List AV)⊕(Int×List AV))} (u v:Nat→Nat) (U V':Int→Int) (lo hi:Nat) (hhi:hi≤2 ^ 61) (hu:∀ h,lo≤h→h<hi→U (h:Int)=(u h:Int)) (hv:∀ h,lo≤h→h<hi→V' (h:Int)=(v h:Int)) (t:Int→Bool)
  (hg:∀ (i j:Int) (xs:List AV),g (i,j,xs)=br (decide (i<j)) (cmpK okE N P (U (xVL i j)) (V' (xVL i j)) xs none fun X Y=>br (t (V X Y)) (some (.inl (IntKind.i64.wrap (xVL i j+1),j,xs))) (some (.inl (i,xVL i j,xs)))) (some (.inr (i,xs))))
  {l:List α} (hl:LOk N ok l) {i j r:Nat} (h1:lo≤i) (h2:j≤hi) (h3:i≤hi) (hr:Iter (xVm fun h=>(get2 c l (u h) (v h)).map t) (i,j)=some r):Iter g ((i:Int),(j:Int),List.map enc l)=some ((r:Int),List.map enc l)∧lo≤r∧r≤hi:=by
 refine xkx (I:=fun s=>lo≤s.1∧s.2≤hi∧s.1≤hi) (J:=fun r=>lo≤r∧r≤hi) (e:=fun (s:Nat×Nat)=>((s.1:Int),(s.2:Int),List.map enc l)) (f:=fun (r:Nat)=>((r:Int),List.map enc l)) ?_ (s:=(i,j)) ⟨h1,h2,h3⟩ hr
 rintro ⟨i,j⟩ ⟨h1,h2,h3⟩
 dsimp only at h1 h2 h3
 by_cases hij:i<j
 · have hh:xVL (i:Int) (j:Int)=(((i+j) / 2:Nat):Int):=xVT (by omega)
   have b1:lo≤(i+j) / 2:=by omega
   have b2:(i+j) / 2<hi:=by omega
   have hdec:decide ((i:Int)<(j:Int))=true:=by simp [hij]
   cases hx:l[u ((i+j) / 2)]? with
   | none=>exact xg4 (by simp [xVm,hij,get2,hx])
   | some x =>
    cases hy:l[v ((i+j) / 2)]? with
    | none=>exact xg4 (by simp [xVm,hij,get2,hx,hy])
    | some y =>
     obtain ⟨c1,c2⟩:=hc x y (hl.ok _ (xgg hx)) (hl.ok _ (xgg hy))
     have hgg:=hg (i:Int) (j:Int) (List.map enc l)
     rw [hdec,xai,hh,hu _ b1 b2,hv _ b1 b2,xTP he hl.len hx hy c1,c2] at hgg
     cases ht:t (c x y) with
     | true =>
      rw [ht,xai,w64 (n:=(i+j) / 2+1) (by omega) (by omega)] at hgg
      exact xqo (s0:=((i+j) / 2+1,j)) (by simp [xVm,hij,get2,hx,hy,ht]) hgg ⟨by dsimp only;omega,h2,by dsimp only;omega⟩
     | false =>
      rw [ht,xaj] at hgg
      exact xqo (s0:=(i,(i+j) / 2)) (by simp [xVm,hij,get2,hx,hy,ht]) hgg ⟨h1,by dsimp only;omega,h3⟩
 · have hdec:decide ((i:Int)<(j:Int))=false:=by simp;omega
   refine xp8 (r0:=i) (by simp [xVm,hij]) ?_ ⟨h1,h3⟩
   rw [hg,hdec,xaj]
theorem xUe {N:Nat} (hN:N≤2 ^ 60) {ok:α→Prop} {SW:Int→Int→Int→List AV→Option (List AV)} (hSW:∀ (a b n:Nat) (l r:List α),a≤2 ^ 60→b≤2 ^ 60→n≤2 ^ 60→LOk N ok l→swr a b n l=some r→SW a b n (List.map enc l)=some (List.map enc r)∧LOk N ok r)
  {g:Int×Int×List AV→Option ((Int×Int×List AV)⊕(Int×List AV))} (m:Nat) (hm:m≤N)
  (hg:∀ (i j:Int) (xs:List AV),g (i,j,xs)=br (i != j) (br (decide (i>j)) (br (SW (IntKind.i64.wrap ((m:Int) - i)) m j xs).isSome (some (.inl (IntKind.i64.wrap (i - j),j,(SW (IntKind.i64.wrap ((m:Int) - i)) m j xs).getD []))) none)
   (br (SW (IntKind.i64.wrap ((m:Int) - i)) (IntKind.i64.wrap (IntKind.i64.wrap ((m:Int)+j) - i)) i xs).isSome (some (.inl (i,IntKind.i64.wrap (j - i),(SW (IntKind.i64.wrap ((m:Int) - i)) (IntKind.i64.wrap (IntKind.i64.wrap ((m:Int)+j) - i)) i xs).getD []))) none)) (some (.inr (i,xs))))
  {i j:Nat} {l l':List α} {i':Nat} (hi:i≤m) (hj:m+j≤N) (hl:LOk N ok l) (hr:Iter (xVn m) (i,j,l)=some (i',l')):Iter g ((i:Int),(j:Int),List.map enc l)=some ((i':Int),List.map enc l')∧i'≤m∧LOk N ok l':=by
 refine xkx (I:=fun s=>s.1≤m∧m+s.2.1≤N∧LOk N ok s.2.2) (J:=fun r=>r.1≤m∧LOk N ok r.2) (e:=fun (s:Nat×Nat×List α)=>((s.1:Int),(s.2.1:Int),List.map enc s.2.2)) (f:=fun (r:Nat×List α)=>((r.1:Int),List.map enc r.2)) ?_ (s:=(i,j,l)) ⟨hi,hj,hl⟩ hr
 rintro ⟨i,j,l⟩ ⟨hi,hj,hl⟩
 dsimp only at hi hj hl
 by_cases h1:i=j
 · subst h1
   refine xp8 (r0:=(i,l)) (by simp [xVn]) ?_ ⟨hi,hl⟩
   rw [hg];simp [xaj]
 · have d1:((i:Int) != (j:Int))=true:=by simp;omega
   have w1:IntKind.i64.wrap ((m:Int) - (i:Int))=((m - i:Nat):Int):=w64 (by omega) (by omega)
   by_cases h2:j<i
   · cases hs:swr (m - i) m j l with
     | none=>exact xg4 (by simp [xVn,h1,h2,hs])
     | some l1 =>
      obtain ⟨e1,e2⟩:=hSW (m - i) m j l l1 (by omega) (by omega) (by omega) hl hs
      refine xqo (s0:=(i - j,j,l1)) (by simp [xVn,h1,h2,hs]) ?_ ⟨by dsimp only;omega,hj,e2⟩
      rw [hg,d1,xai,show decide ((i:Int)>(j:Int))=true by simp [h2],xai,w1,e1,w64 (x:=(i:Int) - (j:Int)) (n:=i - j) (by omega) (by omega)]
      rfl
   · cases hs:swr (m - i) (m+j - i) i l with
     | none=>exact xg4 (by simp [xVn,h1,h2,hs])
     | some l1 =>
      obtain ⟨e1,e2⟩:=hSW (m - i) (m+j - i) i l l1 (by omega) (by omega) (by omega) hl hs
      refine xqo (s0:=(i,j - i,l1)) (by simp [xVn,h1,h2,hs]) ?_ ⟨hi,by dsimp only;omega,e2⟩
      rw [hg,d1,xai,show decide ((i:Int)>(j:Int))=false by simp;omega,xaj,w1,w64 (x:=(m:Int)+(j:Int)) (n:=m+j) (by omega) (by omega),w64 (x:=((m+j:Nat):Int) - (i:Int)) (n:=m+j - i) (by omega) (by omega),e1,w64 (x:=(j:Int) - (i:Int)) (n:=j - i) (by omega) (by omega)]
      rfl
theorem xS4 {N:Nat} (hN:N≤2 ^ 60) {ok:α→Prop} {c:α→α→Int} (a b:Nat) (hb:b≤N) {gi:Int→Int×List AV→Option ((Int×List AV)⊕List AV)}
  (hi:∀ (i:Nat) (l r:List α),LOk N ok l→Iter (xVj c a) (i,l)=some r→Iter (gi i) ((i:Int),List.map enc l)=some (List.map enc r)∧LOk N ok r)
  {g:Int×List AV→Option ((Int×List AV)⊕List AV)}
  (hg:∀ (i:Int) (xs:List AV),g (i,xs)=br (decide (i<(b:Int))) (br (Iter (gi i) (i,xs)).isSome (some (.inl (IntKind.i64.wrap (i+1),(Iter (gi i) (i,xs)).getD []))) none) (some (.inr xs)))
  {i:Nat} {l r:List α} (hl:LOk N ok l) (hr:Iter (xVr c a b) (i,l)=some r):Iter g ((i:Int),List.map enc l)=some (List.map enc r)∧LOk N ok r:=by
 refine xkx (I:=fun s=>LOk N ok s.2) (J:=LOk N ok) (e:=fun s=>((s.1:Int),List.map enc s.2)) (f:=List.map enc) ?_ (s:=(i,l)) hl hr
 rintro ⟨i,l⟩ (hl:LOk N ok l)
 by_cases h:i<b
 · cases hs:Iter (xVj c a) (i,l) with
   | none=>exact xg4 (by simp [xVr,h,hs])
   | some l1 =>
    obtain ⟨e1,e2⟩:=hi i l l1 hl hs
    refine xqo (s0:=(i+1,l1)) (by simp [xVr,h,hs]) ?_ e2
    rw [hg,show decide ((i:Int)<(b:Int))=true by simp [h],xai,e1,w64 (x:=(i:Int)+1) (n:=i+1) (by omega) (by omega)]
    rfl
 · refine xp8 (r0:=l) (by simp [xVr,h]) ?_ hl
   rw [hg,show decide ((i:Int)<(b:Int))=false by simp;omega,xaj]
theorem xNj {N:Nat} (hN:N≤2 ^ 60) {ok:α→Prop} (w:Nat) (hw:w≤2 ^ 61) {p:Nat×Nat×List α→Option ((Nat×Nat×List α)⊕(Nat×List α))} {F:Nat→Nat→List α→Option (List α)} (hp1:∀ a b l l',b≤N→F a b l=some l'→p (a,b,l)=some (.inl (b,b+w,l'))) (hp2:∀ a b l,b≤N→F a b l=none→p (a,b,l)=none) (hp3:∀ a b l,¬ b≤N→p (a,b,l)=some (.inr (a,l)))
  {G:Int→Int→List AV→Option (List AV)} (hF:∀ (a b:Nat) (l r:List α),a≤b→b=a+w→b≤N→LOk N ok l→F a b l=some r→G a b (List.map enc l)=some (List.map enc r)∧LOk N ok r)
  {g:Int×Int×List AV→Option ((Int×Int×List AV)⊕(Int×List AV))}
  (hg:∀ (a b:Int) (xs:List AV),g (a,b,xs)=br (decide (b≤(N:Int))) (br (G a b xs).isSome (some (.inl (b,IntKind.i64.wrap (b+(w:Int)),(G a b xs).getD []))) none) (some (.inr (a,xs))))
  {l l':List α} {a a':Nat} (hl:LOk N ok l) (hr:Iter p (a,a+w,l)=some (a',l')) (ha:a≤N):Iter g ((a:Int),((a+w:Nat):Int),List.map enc l)=some ((a':Int),List.map enc l')∧a'≤N∧N<a'+w∧LOk N ok l':=by
 refine xkx (I:=fun s=>s.1≤N∧s.2.1=s.1+w∧LOk N ok s.2.2) (J:=fun r=>r.1≤N∧N<r.1+w∧LOk N ok r.2) (e:=fun (s:Nat×Nat×List α)=>((s.1:Int),(s.2.1:Int),List.map enc s.2.2)) (f:=fun (r:Nat×List α)=>((r.1:Int),List.map enc r.2)) ?_ (s:=(a,a+w,l)) ⟨ha,rfl,hl⟩ hr
 rintro ⟨a,b,l⟩ ⟨h1,h2,hl⟩
 dsimp only at h1 h2 hl
 by_cases h:b≤N
 · cases hs:F a b l with
   | none=>exact xg4 (hp2 _ _ _ h hs)
   | some l1 =>
    obtain ⟨e1,e2⟩:=hF a b l l1 (by omega) h2 h hl hs
    refine xqo (s0:=(b,b+w,l1)) (hp1 _ _ _ _ h hs) ?_ ⟨h,rfl,e2⟩
    rw [hg,show decide ((b:Int)≤(N:Int))=true by simp [h],xai,e1,w64 (x:=(b:Int)+(w:Int)) (n:=b+w) (by omega) (by omega)]
    rfl
 · refine xp8 (r0:=(a,l)) (hp3 _ _ _ h) ?_ ⟨h1,by dsimp only;omega,hl⟩
   rw [hg,show decide ((b:Int)≤(N:Int))=false by simp;omega,xaj]
end
end Go.Sim.M
end
noncomputable section
set_option maxRecDepth 100000
namespace Go.Sim.M
open Go.RowKit Go.Sim.Srt
abbrev encA:Row→AV:=encR
noncomputable def xV3 (x y:AV):Bool:=(xeW (x.cells.getD 0 AV.top).toList (y.cells.getD 0 AV.top).toList).isSome
noncomputable def xV4 (x y:AV):Int:=(xeW (x.cells.getD 0 AV.top).toList (y.cells.getD 0 AV.top).toList).getD 0
section
variable {N : Nat} (hN : N ≤ 2 ^ 60) {ok : Row → Prop} {c : Row → Row → Int} (hc : ∀ x y, ok x → ok y → xV3 (encA x) (encA y) = true ∧ xV4 (encA x) (encA y) = c x y)
include hN
include hc
end
end Go.Sim.M
end
noncomputable section
set_option maxRecDepth 100000
namespace Go.Sim.M
open Go.RowKit Go.Sim.Srt
def xVB (l:List Row):Prop:=l.length≤1048576∧∀ x,x∈l→x.length≤1048576
theorem xVB.perm {l l':List Row} (h:xVB l) (hp:l'.Perm l):xVB l':=⟨by rw [hp.length_eq];exact h.1,fun x hx=>h.2 x (hp.mem_iff.1 hx)⟩
theorem xOO {n f:Nat} (h:n≤1048576) (hf:20≤f):n≤2 ^ f:=Nat.le_trans h (Nat.pow_le_pow_right (n:=2) (by omega) hf:2 ^ 20≤2 ^ f)
theorem xQW (x y:Row) (hx:x.length≤maxLen):xge (x.map encV) (y.map encV) []=some (decide (cmpR x y<0)):=by
 have h:Iter (xcD (x.map encV) (y.map encV) []) (0:Int)=some (false,false,()):=xaJ (by
  simp only [xcD,xl9,List.length_nil];rfl)
 unfold xge xpn
 rw [h,xvl x y hx];rfl
theorem xRw (a b:List Row) (ha:a.length+b.length≤1048576) (hra:∀ x,x∈a→x.length≤1048576) (hrb:∀ x,x∈b→x.length≤1048576) (sa:Sorted (cmpR) a) (sb:Sorted (cmpR) b) :
  ∀ (n i k:Nat) (D:List Row),(a.length - i)+(b.length - k)=n→i≤a.length→k≤b.length→D.length=i+k →
   ∃ r,Iter (xbi (List.map encR a) (List.map encR b) []) (D.length,(i:Int),(k:Int),List.map encR D)=some (a.length+b.length,List.map encR (D++r))∧r.Perm (a.drop i++b.drop k)∧Sorted (cmpR) r:=by
 intro n
 induction n with
 | zero =>
  intro i k D hn hi hk hD
  have h1:¬ (i:Int)<(a.length:Int):=by omega
  have h2:¬ (k:Int)<(b.length:Int):=by omega
  refine ⟨[],xaJ ?_,?_,by simp [Sorted]⟩
  · simp only [xbi,xec,xb7,xb8,xb9,xca,  List.length_map,xbR,h1,h2,decide_false,Bool.false_eq_true,if_false,List.append_nil]
    rw [show D.length=a.length+b.length by omega]
  · rw [List.drop_eq_nil_of_le (by omega),List.drop_eq_nil_of_le (by omega)];exact List.Perm.refl _
 | succ n ih =>
  intro i k D hn hi hk hD
  have hlen:(List.map encR D).length=D.length:=by simp
  have m1:(D.length+1)*24≤140737488355328:=by omega
  have m2:D.length+1≤4611686018427387904:=by omega
  have snoc:∀ x:Row,List.map encR D++[AV.list 3 (x.map encV)]=List.map encR (D++[x]):=fun x=>by simp [encR]
  have wi:=xnf (n:=i) (show i+1≤maxLen by unfold maxLen;omega)
  have wk:=xnf (n:=k) (show k+1≤maxLen by unfold maxLen;omega)
  by_cases hia:i<a.length
  · have i1:(i:Int)<(a.length:Int):=by omega
    have i2:((i:Int)==(a.length:Int))=false:=by simp;omega
    have hx:a[i]?=some a[i]:=by simp [hia]
    by_cases hkb:k<b.length
    · have k1:(k:Int)<(b.length:Int):=by omega
      have hy:b[k]?=some b[k]:=by simp [hkb]
      have e:=xQW b[k] a[i] (by have:=hrb b[k] (List.getElem_mem hkb);unfold maxLen;omega)
      by_cases hc:cmpR b[k] a[i]<0
      · obtain ⟨r,h1,h2,h3⟩:=ih i (k+1) (D++[b[k]]) (by omega) hi (by omega) (by simp;omega)
        refine ⟨b[k]::r,?_,?_,?_⟩
        · refine xbc (s':=((D++[b[k]]).length,(i:Int),((k+1:Nat):Int),List.map encR (D++[b[k]]))) ?_ (by rw [h1];simp)
          simp only [xbi,xec,xb7,xb8,xb9,xca,  List.length_map,xbR,i1,i2,k1,hia,hkb,decide_true,Bool.false_eq_true,if_false,if_true,Int.toNat_natCast,gR hx,gR hy,cR0,sR0,e,Option.isSome_some,Option.getD_some,hc,Int.natCast_nonneg,Bool.and_true,beq_self_eq_true,m1,m2,snoc,wk]
          simp
        · rw [xbI hkb]
          exact (h2.cons _).trans List.perm_middle.symm
        · refine List.pairwise_cons.2 ⟨fun z hz=>?_,h3⟩
          rcases List.mem_append.1 (h2.mem_iff.1 hz) with hz|hz
          · rw [xbI hia] at hz
            rcases List.mem_cons.1 hz with rfl|hz
            · omega
            · obtain ⟨j,hj,rfl⟩:=List.mem_iff_getElem.1 hz
              have hja:i+1+j<a.length:=by simp at hj;omega
              have:=xcl sa (i:=i) (j:=i+1+j) (by omega) hja
              rw [List.getElem_drop]
              exact xyc.trans _ _ _ (Int.le_of_lt hc) this
          · obtain ⟨j,hj,rfl⟩:=List.mem_iff_getElem.1 hz
            have hjb:k+1+j<b.length:=by simp at hj;omega
            rw [List.getElem_drop]
            exact xcl sb (i:=k) (j:=k+1+j) (by omega) hjb
      · obtain ⟨r,h1,h2,h3⟩:=ih (i+1) k (D++[a[i]]) (by omega) (by omega) hk (by simp;omega)
        refine ⟨a[i]::r,?_,?_,?_⟩
        · refine xbc (s':=((D++[a[i]]).length,((i+1:Nat):Int),(k:Int),List.map encR (D++[a[i]]))) ?_ (by rw [h1];simp)
          simp only [xbi,xec,xb7,xb8,xb9,xca,  List.length_map,xbR,i1,i2,k1,hia,hkb,decide_true,Bool.false_eq_true,if_false,if_true,Int.toNat_natCast,gR hx,gR hy,cR0,sR0,e,Option.isSome_some,Option.getD_some,hc,decide_false,Int.natCast_nonneg,Bool.and_true,beq_self_eq_true,m1,m2,snoc,wi]
          simp
        · rw [xbI hia]
          exact h2.cons _
        · refine List.pairwise_cons.2 ⟨fun z hz=>?_,h3⟩
          have hab:cmpR a[i] b[k]≤0:=xyc.ord.le_of_not hc
          rcases List.mem_append.1 (h2.mem_iff.1 hz) with hz|hz
          · obtain ⟨j,hj,rfl⟩:=List.mem_iff_getElem.1 hz
            have hja:i+1+j<a.length:=by simp at hj;omega
            rw [List.getElem_drop]
            exact xcl sa (i:=i) (j:=i+1+j) (by omega) hja
          · rw [xbI hkb] at hz
            rcases List.mem_cons.1 hz with rfl|hz
            · exact hab
            · obtain ⟨j,hj,rfl⟩:=List.mem_iff_getElem.1 hz
              have hjb:k+1+j<b.length:=by simp at hj;omega
              rw [List.getElem_drop]
              exact xyc.trans _ _ _ hab (xcl sb (i:=k) (j:=k+1+j) (by omega) hjb)
    · have k1:¬ (k:Int)<(b.length:Int):=by omega
      obtain ⟨r,h1,h2,h3⟩:=ih (i+1) k (D++[a[i]]) (by omega) (by omega) hk (by simp;omega)
      refine ⟨a[i]::r,?_,?_,?_⟩
      · refine xbc (s':=((D++[a[i]]).length,((i+1:Nat):Int),(k:Int),List.map encR (D++[a[i]]))) ?_ (by rw [h1];simp)
        simp only [xbi,xec,xb7,xb8,xb9,xca,  List.length_map,xbR,i1,i2,k1,hia,decide_true,decide_false,Bool.false_eq_true,if_false,if_true,Int.toNat_natCast,gR hx,cR0,sR0,Int.natCast_nonneg,Bool.and_true,beq_self_eq_true,m1,m2,snoc,wi]
        simp
      · rw [xbI hia]
        exact h2.cons _
      · refine List.pairwise_cons.2 ⟨fun z hz=>?_,h3⟩
        rw [List.drop_eq_nil_of_le (show b.length≤k by omega),List.append_nil] at h2
        obtain ⟨j,hj,rfl⟩:=List.mem_iff_getElem.1 (h2.mem_iff.1 hz)
        have hja:i+1+j<a.length:=by simp at hj;omega
        rw [List.getElem_drop]
        exact xcl sa (i:=i) (j:=i+1+j) (by omega) hja
  · have i1:¬ (i:Int)<(a.length:Int):=by omega
    have hkb:k<b.length:=by omega
    have k1:(k:Int)<(b.length:Int):=by omega
    have i2:((i:Int)==(a.length:Int))=true:=by simp;omega
    have hy:b[k]?=some b[k]:=by simp [hkb]
    obtain ⟨r,h1,h2,h3⟩:=ih i (k+1) (D++[b[k]]) (by omega) hi (by omega) (by simp;omega)
    refine ⟨b[k]::r,?_,?_,?_⟩
    · refine xbc (s':=((D++[b[k]]).length,(i:Int),((k+1:Nat):Int),List.map encR (D++[b[k]]))) ?_ (by rw [h1];simp)
      simp only [xbi,xec,xb7,xb8,xb9,xca,  List.length_map,xbR,i1,i2,k1,hkb,decide_true,decide_false,Bool.false_eq_true,if_false,if_true,Int.toNat_natCast,gR hy,cR0,sR0,Int.natCast_nonneg,Bool.and_true,beq_self_eq_true,m1,m2,snoc,wk]
      simp
    · rw [xbI hkb]
      exact (h2.cons _).trans List.perm_middle.symm
    · refine List.pairwise_cons.2 ⟨fun z hz=>?_,h3⟩
      rw [List.drop_eq_nil_of_le (show a.length≤i by omega),List.nil_append] at h2
      obtain ⟨j,hj,rfl⟩:=List.mem_iff_getElem.1 (h2.mem_iff.1 hz)
      have hjb:k+1+j<b.length:=by simp at hj;omega
      rw [List.getElem_drop]
      exact xcl sb (i:=k) (j:=k+1+j) (by omega) hjb
theorem xRy (a b:List Row) (ha:a.length+b.length≤1048576) (hra:∀ x,x∈a→x.length≤1048576) (hrb:∀ x,x∈b→x.length≤1048576) (sa:Sorted cmpR a) (sb:Sorted cmpR b) :
  ∃ r,xkc (a.map encR) (b.map encR) []=some (r.map encR)∧r.Perm (a++b)∧Sorted cmpR r:=by
 obtain ⟨r,h1,h2,h3⟩:=xRw a b ha hra hrb sa sb _ 0 0 [] rfl (Nat.zero_le _) (Nat.zero_le _) rfl
 simp only [List.drop_zero,List.nil_append] at h1 h2
 have h1':Iter (xbi (a.map encR) (b.map encR) []) (0,(0:Int),(0:Int),[])=some (r.length,r.map encR):=by
  rw [h2.length_eq,List.length_append];exact h1
 refine ⟨r,?_,h2,h3⟩
 unfold xkc xpo
 simp only [xr3,xr4,xr5,xr6,h1',List.drop_zero,List.take_of_length_le,Nat.zero_add,List.length_map,Nat.le_refl,decide_true,Bool.and_true,xai,Option.isSome_some,Option.getD_some]
theorem xRO:∀ (f:Nat) (l:List Row),l.length≤2 ^ f→xVB l→∃ r,xdw (f+1) (List.map encR l) []=some (List.map encR r)∧r.Perm l∧Sorted (cmpR) r:=by
 intro f
 induction f with
 | zero =>
  intro l hl hs
  match l,hl with
  | [],_=>exact ⟨[],by simp [xdw,xdE,xhD,xbR],List.Perm.refl _,by simp [Sorted]⟩
  | [x],_ =>
   have hx:=hs.2 x (by simp)
   refine ⟨[x],?_,List.Perm.refl _,by simp [Sorted]⟩
   have m1:x.length*32≤140737488355328:=by omega
   have m2:x.length≤4611686018427387904:=by omega
   show xdE (xdw 0) (List.map encR [x]) []=_
   simp [xdE,xhD,xms,xmt,xh8,xmu,  xbR,hasSh1,encR,m1,m2,AV.toList,AV.cells]
   exact List.take_of_length_le (by simp)
 | succ f ih =>
  intro l hl hs
  by_cases h2:l.length≤1
  · match l,h2 with
    | [],_=>exact ⟨[],by show xdE (xdw (f+1)) (List.map encR []) []=_;simp [xdE,xhD,xbR],List.Perm.refl _,by simp [Sorted]⟩
    | [x],_ =>
     have hx:=hs.2 x (by simp)
     refine ⟨[x],?_,List.Perm.refl _,by simp [Sorted]⟩
     have m1:x.length*32≤140737488355328:=by omega
     have m2:x.length≤4611686018427387904:=by omega
     show xdE (xdw (f+1)) (List.map encR [x]) []=_
     simp [xdE,xhD,xms,xmt,xh8,xmu,  xbR,hasSh1,encR,m1,m2,AV.toList,AV.cells]
     exact List.take_of_length_le (by simp)
  · have hp:2 ^ (f+1)=2*2 ^ f:=by rw [Nat.pow_succ];omega
    have hs1:=hs.1
    obtain ⟨m,hm⟩:∃ m,m=l.length / 2:=⟨_,rfl⟩
    have st:xVB (l.take m):=⟨by simp;omega,fun x hx=>hs.2 x (List.mem_of_mem_take hx)⟩
    have sd:xVB (l.drop m):=⟨by simp;omega,fun x hx=>hs.2 x (List.mem_of_mem_drop hx)⟩
    obtain ⟨r1,e1,p1,s1⟩:=ih (l.take m) (by simp;omega) st
    obtain ⟨r2,e2,p2,s2⟩:=ih (l.drop m) (by simp;omega) sd
    have l1:=p1.length_eq
    have l2:=p2.length_eq
    simp only [List.length_take,List.length_drop] at l1 l2
    obtain ⟨r,a1,a3,a4⟩:=xRy r1 r2 (by omega) (fun x hx=>st.2 x (p1.mem_iff.1 hx)) (fun x hx=>sd.2 x (p2.mem_iff.1 hx)) s1 s2
    refine ⟨r,?_,a3.trans ((p1.append p2).trans (by rw [List.take_append_drop])),a4⟩
    have w:IntKind.i64.wrap ((l.length:Int).tdiv 2)=(m:Int):=by
     rw [Int.tdiv_eq_ediv_of_nonneg (by omega)]
     exact w64 (by omega) (by omega)
    have t1:List.take m (List.map encR l)=List.map encR (l.take m):=by simp
    have t2:List.take (l.length - m) (List.drop m (List.map encR l))=List.map encR (l.drop m):=by
     rw [List.take_of_length_le (by simp)];simp
    have d0:((l.length:Int)==0)=false:=by simp;intro h;subst h;simp at h2
    have d1:((l.length:Int)==1)=false:=by simp;omega
    have d2:(m:Int)≤(l.length:Int):=by omega
    show xdE (xdw (f+1)) (List.map encR l) []=_
    simp only [xdE,xhD,xms,xmt,xh8,xmu,  List.length_map,d0,d1,xaj,w,Int.toNat_natCast,Nat.sub_zero,List.drop_zero,t1,t2,e1,e2,Option.isSome_some,Option.getD_some,xai,d2,decide_true,Int.natCast_nonneg,Bool.and_true,a1]
theorem xSY (l:List Row) (h:xVB l):∃ r,xjD (l.map encR)=some (r.map encR)∧r.Perm l∧Sorted cmpR r:=by
 obtain ⟨r,e,p,s⟩:=(fun F (hF:20≤F)=>xRO F l (xOO h.1 hF) h) 999 (by decide)
 refine ⟨r,?_,p,s⟩
 unfold xjD xr2
 rw [e];rfl
end Go.Sim.M
end
noncomputable section
set_option maxRecDepth 100000
namespace Go.Sim.M
open Go.RowKit Go.Sim.Srt
deriving instance DecidableEq for Fc
theorem xEn {α:Type} [DecidableEq α] {step:Int→Option (Int⊕(Bool×Bool×Unit))} (a b:List α) (hl:a.length=b.length)
  (hs:∀ (n:Nat) (h1:n<a.length) (h2:n<b.length),step (n:Int)=if a[n]=b[n] then some (.inl ((n+1:Nat):Int)) else some (.inr (true,false,())))
  (he:step (a.length:Int)=some (.inr (false,false,()))):Iter step (0:Int)=some (if a=b then (false,false,()) else (true,false,())):=by
 have key:∀ d n:Nat,n+d=a.length→Iter step (n:Int)=some (if a.drop n=b.drop n then (false,false,()) else (true,false,())):=by
  intro d
  induction d with
  | zero =>
   intro n h
   have:n=a.length:=by omega
   subst this
   rw [List.drop_eq_nil_of_le (Nat.le_refl _),List.drop_eq_nil_of_le (by omega)]
   exact xaJ he
  | succ d ih =>
   intro n h
   have h1:n<a.length:=by omega
   have h2:n<b.length:=by omega
   have:=hs n h1 h2
   have e:a.drop n=b.drop n↔a[n]=b[n]∧a.drop (n+1)=b.drop (n+1):=by rw [xbI h1,xbI h2,List.cons.injEq]
   by_cases hc:a[n]=b[n]
   · rw [if_pos hc] at this
     rw [xaZ this,ih (n+1) (by omega)]
     by_cases hr:a.drop (n+1)=b.drop (n+1)
     · rw [if_pos hr,if_pos (e.2 ⟨hc,hr⟩)]
     · rw [if_neg hr,if_neg fun h=>hr (e.1 h).2]
   · rw [if_neg hc] at this
     rw [xaJ this,if_neg fun h=>hc (e.1 h).1]
 have:=key a.length 0 (by omega)
 simpa using this
theorem cV0 (v:Val):((encV v).cells.getD 0 .top).toInt=v.k:=rfl
theorem cV1 (v:Val):((encV v).cells.getD 1 .top).toInt=v.i:=rfl
theorem cV2 (v:Val):((encV v).cells.getD 2 .top).toStr=v.t:=rfl
theorem lV (v:Val):((encV v).cells.length==3)=true:=rfl
theorem sV (v:Val):hasShs [Sh.int .i64,Sh.int .i64,Sh.str] (encV v).cells 0=true:=rfl
theorem xUD (x y:Val):(x.k==y.k&&(x.i==y.i&&x.t==y.t))=decide (x=y):=by
 cases x;cases y;simp [Bool.decide_and,Bool.beq_eq_decide_eq]
theorem xRd (x y:Per):(x.1==y.1&&x.2==y.2)=decide (x=y):=by
 cases x;cases y;simp [Bool.decide_and,Bool.beq_eq_decide_eq]
theorem cmp0 (x y:Row):(cmpR x y==0)=decide (x=y):=by
 by_cases h:x=y
 · subst h;simp [xCH]
 · have:cmpR x y≠0:=fun e=>h (xq9 e)
   simp [h,this]
theorem cmp1 (x y:Row):(cmpR x y != 0)=!decide (x=y):=by rw [←cmp0];rfl
theorem xUE (x y:Fc):x=y↔x.r=y.r∧x.p=y.p:=by cases x;cases y;simp
theorem xBb (a b:List Val) (hl:a.length=b.length) (ha:a.length≤1048576):Iter (xbY (a.map encV) (b.map encV) ((a.length:Nat):Int)) (0:Int)=some (if a=b then (false,false,()) else (true,false,())):=by
 refine xEn a b hl (fun n h h2=>?_) ?_
 · have h1:(n:Int)<(a.length:Int):=by omega
   have h3:(n:Int)<(b.length:Int):=by omega
   have gf:(a.map encV).getD n .top=encV a[n]:=xaH _ _ _ h
   have gg:(b.map encV).getD n .top=encV b[n]:=xaH _ _ _ h2
   simp only [xbY,xju,List.length_map,xai,xaj,decide_true,decide_false,Bool.and_true,Bool.true_and,Bool.not_true,Bool.not_false,Int.toNat_natCast,Int.natCast_nonneg,Option.isSome_some,Option.getD_some,beq_self_eq_true,Nat.zero_add,Nat.sub_zero,h,h1,h2,h3,gf,gg,cV0,cV1,cV2,lV,sV,xUD,xVi (n:=n) (by omega)]
   by_cases he:a[n]=b[n]<;>simp [he,xai,xaj,xbR]
 · simp only [xbY,xju,List.length_map,Int.lt_irrefl,decide_false,xaj]
theorem xRW (a b:Row) (ha:a.length≤1048576):xio (a.map encV) (b.map encV)=some (decide (a=b)):=by
 unfold xio xpw
 by_cases hl:a.length=b.length
 · simp only [List.length_map,hl,bne_self_eq_false,xaj]
   have:=xBb a b hl ha
   rw [hl] at this
   rw [this]
   by_cases h:a=b<;>simp [h,xai,xaj]
 · have h:a≠b:=fun e=>hl (by rw [e])
   have h2:((a.length:Int) != (b.length:Int))=true:=by simp;omega
   simp [h,h2,xai]
theorem xRl (x y:Fc) (hx:x.r.length≤1048576):xee (x.r.map encV) x.p.1 x.p.2 (y.r.map encV) y.p.1 y.p.2=some (decide (x=y)):=by
 unfold xee xiz
 rw [xRW _ _ hx,Bool.and_true,xRd]
 cases x with|mk r p=>cases y with|mk r' p' =>
 by_cases h:p=p'<;>by_cases h2:r=r'<;>simp [h,h2,xai,xaj]
theorem xv2 (a b:List Fc) (hl:a.length=b.length) (ha:a.length≤1048576) (hr:∀ f,f∈a→f.r.length≤1048576):Iter (xbd (b.map encF) (a.map encF) ((a.length:Nat):Int)) (0:Int)=some (if a=b then (false,false,()) else (true,false,())):=by
 refine xEn a b hl (fun n h h2=>?_) ?_
 · have h1:(n:Int)<(a.length:Int):=by omega
   have h3:(n:Int)<(b.length:Int):=by omega
   have gf:(a.map encF).getD n .top=encF a[n]:=xaH _ _ _ h
   have gg:(b.map encF).getD n .top=encF b[n]:=xaH _ _ _ h2
   have hm:=hr a[n] (List.getElem_mem h)
   simp only [xbd,xgG,xig,List.length_map,xai,xaj,decide_true,decide_false,Bool.and_true,Bool.true_and,Bool.not_true,Bool.not_false,Int.toNat_natCast,Int.natCast_nonneg,Option.isSome_some,Option.getD_some,beq_self_eq_true,Nat.zero_add,Nat.sub_zero,h,h1,h2,h3,gf,gg,cF0,cF1,cF2,sF0,sF1,sF2,lF,sF12,sF02,xRl _ _ hm,Option.isSome_some,Option.getD_some,xVi (n:=n) (by omega)]
   by_cases he:a[n]=b[n]<;>simp [he,xai,xaj,xbR]
 · simp only [xbd,xgG,xig,List.length_map,Int.lt_irrefl,decide_false,xaj]
theorem xSF (a b:List Fc) (ha:a.length≤1048576) (hr:∀ f,f∈a→f.r.length≤1048576):xdH (a.map encF) (b.map encF)=some (decide (a=b)):=by
 unfold xdH xjy xgl xlp
 by_cases hl:a.length=b.length
 · simp only [List.length_map,hl,bne_self_eq_false,xaj]
   have:=xv2 a b hl ha hr
   rw [hl] at this
   rw [this]
   by_cases h:a=b<;>simp [h,xai,xaj]
 · have h:a≠b:=fun e=>hl (by rw [e])
   have h2:((a.length:Int) != (b.length:Int))=true:=by simp;omega
   simp [h,h2,xai]
theorem xwp (a b:List Fc) (hl:a.length=b.length) (ha:a.length≤1048576) (hr:∀ f,f∈a→f.r.length≤maxLen):Iter (xbm (a.map encF) (b.map encF)) (0:Int)=some (if a=b then (false,false,()) else (true,false,())):=by
 refine xEn a b hl (fun n h h2=>?_) ?_
 · have h1:(n:Int)<(a.length:Int):=by omega
   have h3:(n:Int)<(b.length:Int):=by omega
   have gf:(a.map encF).getD n .top=encF a[n]:=xaH _ _ _ h
   have gg:(b.map encF).getD n .top=encF b[n]:=xaH _ _ _ h2
   have hm:=hr a[n] (List.getElem_mem h)
   simp only [xbm,xgU,List.length_map,xai,xaj,decide_true,decide_false,Bool.and_true,Bool.true_and,Bool.not_true,Bool.not_false,Int.toNat_natCast,Int.natCast_nonneg,Option.isSome_some,Option.getD_some,beq_self_eq_true,Nat.zero_add,Nat.sub_zero,h,h1,h2,h3,gf,gg,cF0,cF1,cF2,sF0,sF1,sF2,lF,sF12,sF02,xRd,xvl _ _ hm,cmp1,xVi (n:=n) (by omega)]
   by_cases hp:a[n].p=b[n].p<;>by_cases hq:a[n].r=b[n].r<;>simp [hp,hq,xUE,xai,xaj]
 · simp only [xbm,xgU,List.length_map,Int.lt_irrefl,decide_false,xaj]
theorem xKW (a b:List Fc) (ha:a.length≤1048576) (hr:∀ f,f∈a→f.r.length≤maxLen):xcf (a.map encF) (b.map encF)=some (decide (a=b)):=by
 unfold xcf xmb
 by_cases hl:a.length=b.length
 · simp only [List.length_map,hl,bne_self_eq_false,xaj]
   rw [xwp a b hl ha hr]
   by_cases h:a=b<;>simp [h,xai,xaj]
 · have h:a≠b:=fun e=>hl (by rw [e])
   have h2:((a.length:Int) != (b.length:Int))=true:=by simp;omega
   simp [h,h2,xai]
theorem xyA (a b:List Int) (hl:a.length=b.length) (ha:a.length≤1048576):Iter (xbt (a.map encN) (b.map encN)) (0:Int)=some (if a=b then (false,false,()) else (true,false,())):=by
 refine xEn a b hl (fun n h h2=>?_) ?_
 · have h1:(n:Int)<(a.length:Int):=by omega
   have h3:(n:Int)<(b.length:Int):=by omega
   have gf:(a.map encN).getD n .top=encN a[n]:=xaH _ _ _ h
   have gg:(b.map encN).getD n .top=encN b[n]:=xaH _ _ _ h2
   simp only [xbt,xhQ,List.length_map,xai,xaj,decide_true,decide_false,Bool.and_true,Bool.true_and,Bool.not_true,Bool.not_false,Int.toNat_natCast,Int.natCast_nonneg,Option.isSome_some,Option.getD_some,beq_self_eq_true,Nat.zero_add,Nat.sub_zero,h,h1,h2,h3,gf,gg,cN,sN,xVi (n:=n) (by omega)]
   by_cases he:a[n]=b[n]<;>simp [he,xai,xaj,xbR]
 · simp only [xbt,xhQ,List.length_map,Int.lt_irrefl,decide_false,xaj]
theorem xN8 (a b:List Int) (ha:a.length≤1048576):xgw (a.map encN) (b.map encN)=some (decide (a=b)):=by
 unfold xgw xm4
 by_cases hl:a.length=b.length
 · simp only [List.length_map,hl,bne_self_eq_false,xaj]
   rw [xyA a b hl ha]
   by_cases h:a=b<;>simp [h,xai,xaj]
 · have h:a≠b:=fun e=>hl (by rw [e])
   have h2:((a.length:Int) != (b.length:Int))=true:=by simp;omega
   simp [h,h2,xai]
def atL (l:List Fc) (t:Int):List Row:=l.flatMap fun f=>if hasP f.p t=true then [f.r] else []
theorem xTF (l:List Fc) (t:Int):(atL l t).length≤l.length:=by
 have:=xlT (g:=fun f:Fc=>if hasP f.p t=true then [f.r] else []) (c:=1) l fun f _=>by split<;>simp
 unfold atL;omega
theorem xTG {l:List Fc} {t:Int} {r:Row} (h:r∈atL l t):∃ f,f∈l∧f.r=r∧hasP f.p t=true:=by
 obtain ⟨f,hf,h⟩:=List.mem_flatMap.1 h
 split at h
 · rename_i hp
   simp only [List.mem_singleton] at h
   exact ⟨f,hf,h.symm,hp⟩
 · simp at h
def Few (l:List Fc):Prop:=l.length≤1048576∧∀ f,f∈l→f.r.length≤1048576
theorem Few.at {l:List Fc} (h:Few l) (t:Int):xVB (atL l t):=⟨Nat.le_trans (xTF l t) h.1,fun x hx=>by obtain ⟨f,hf,rfl,_⟩:=xTG hx;exact h.2 f hf⟩
end Go.Sim.M
end
