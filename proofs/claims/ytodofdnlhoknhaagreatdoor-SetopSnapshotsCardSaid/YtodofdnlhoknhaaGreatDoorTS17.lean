/- Part 17. -/
import Derived.Test.YtodofdnlhoknhaaGreatDoorTS16
import Derived.Test.YtodofdnlhoknhaaGreatDoorCards
import Derived.Test.YtodofdnlhoknhaaGreatDoorTie
import Derived.ChangeMaps5
import Derived.Deep.DeepHandedRow
import Derived.Stop.LaidErr
import Derived.Deep.DeepLaidRun
set_option linter.all false
set_option maxRecDepth 10000
set_option maxRecDepth 100000
noncomputable section
namespace Go.Sim
open Go.RowKit Go.Proofs Go.ChangeShapes Go.WideShapes Go.ChangeAt
variable {P:Program}
theorem xBu{w:World}(h:w.ShapedOpen P)(hg:P.globals.size<P.low):P.low<=w.heap.size:=by obtain⟨o,o₀,h1,_,_⟩:=h.2 (P.low - 1) Ω (by unfold Program.low at hg|-;omega);rcases zJ (P.low - 1) w.heap.size with h'|h';omega;rw[Array.getElem?_eq_none h']at h1;simp at h1
def xO6:DataW Unit->List Value|.lit (.int k n)=>[.int k n]|.agg l=>(l.flatMap λ d=>match d with|.lit (.int k n)=>[.int k n]|.agg l'=>(l'.flatMap λ d'=>match d' with|.lit (.int k n)=>[.int k n]|_=>[])|_=>[])|_=>[]
def X7(P:Program):List (String×DataW Unit)->Array Obj->Array Obj|[],h=>h|x::r,h=>X7 P r (match P.globalNamed x.1 with|some g=>(h.modify g λ o=>match o with|.cells _ t frozen=>.cells (xO6 x.2).toArray t frozen|o=>o)|none=>h)
def Oa(P:Program)(q:List (String×DataW Unit))(os:Os):World:={World.holding P os ⟨#[],#[],[]⟩with heap:=X7 P q (World.holding P os ⟨#[],#[],[]⟩).heap}
variable {W W':World}
theorem xHK{H:Type}{enc:TypeId×Value->H}{f:Func}{s:ChangeSpec}{args:Array Value}{ds:List (DataW H)}{q:List MemPlace}{tb:TypeId}(hs:s.vars=[])(hW:DataW.Whole enc P f.params.toList s.vars false W args.toList ds [] q)(O:(s.fn H ds).results=[.lit (.bool true)]/\(s.fn H ds).args=ds/\(s.fn H ds).vars=[])(Q:f.resultTypes=#[tb])(V:P.underlying tb=some .bool)(J:DataW.TrodAll enc P W' 0 (λ b=>decide (b<W.heap.size)) true f.params.toList args.toList ds q)(hb:Below W.heap.size W W'):s.post enc P f false true false false W args (.bool true) W':=by refine⟨ds,[],q,[],q,[],hW,?_,?_,?_,hb.frame _,λ h=>by simp at h⟩;simp only[zD,O.1,Q];exact trodAll_cons_mk (shut_bool V _) trodAll_mk0;simpa[O.2.1]using J;simp only[zD,O.2.2,hs];rfl
theorem xuC{H:Type}{enc:TypeId×Value->H}(hl:laidOutB P)(hb:Below W.heap.size W W'):∀{ts:List TypeId}{vs:List Value}{ds:List (DataW H)}{ps:List MemPlace},(ts.all λ t=>P.readableRec t&&decide (t<P.types.size))->DataW.TrodAll enc P W 0 (λ _=>true) true ts vs ds ps->DataW.TrodAll enc P W' 0 (λ b=>decide (b<W.heap.size)) true ts vs ds ps|[],vs,ds,ps,_,h=>(by obtain⟨rfl,rfl,rfl⟩:=trodAll_nil h;exact trodAll_mk0)|t::ts,vs,ds,ps,ht,h=>by have J:=h.lt;obtain⟨v,Q,d,O,p,q,rfl,rfl,rfl,hd,hr⟩:=trodAll_cons h;simp only[List.all_cons,zf,zl]at ht;exact trodAll_cons_mk (Below.trod hl ht.1.1 ht.1.2 hd hb λ x hx=>J x (by simp[hx])) (xuC hl hb ht.2 hr)
section
variable{H:Type}{enc:TypeId × Value->H}{P:Program}{w:World}{base b n:Nat}{sp:Nat->Bool}{held:Bool}{v:Value}{d:DataW H}{ps:List MemPlace}{t:TypeId}
theorem xHH{T:Ty}(hf:flat P n t=some [T])(hv:v.cells=#[v])(hd:DataW.Trod enc P w b sp held t v d ps):∃a,aD w (λ _=>False) er v a/\dZ T a/\∀μ:DataW H->Nat,lr μ->a.wt<=μ d:=by obtain⟨fuel,q⟩:=hd;rw[hv]at q;obtain⟨ra,ha,hw⟩:=KQ n t [T] hf fuel _ _ q;cases ha with|cons h ht r=>cases r with|nil=>exact⟨_,h,ht,λ μ hμ=>by simpa[AV.wts]using hw μ hμ⟩
theorem xKM{k:IntKind}(ht:P.underlying t=some (.int k))(q:Value.okWide P w .any base t v)(hd:DataW.Trod enc P w b sp held t v d ps):∃m,aD w (λ _=>False) er v (.int k m)/\(Lit.int k m).wf/\∀μ:DataW H->Nat,lr μ->(AV.int k m).wt<=μ d:=by obtain⟨m,rfl⟩:=okWide_int ht q;obtain⟨a,h,hT,hB⟩:=xHH (n:=1) (T:=.int k) (by simp[flat,ht]) rfl hd;cases hT with|int _ m' hw=>(obtain rfl:m'=m:=by cases h;rfl);exact⟨m',h,hw,hB⟩
theorem Sv{α:Type}{e:α->AV}{wf:α->Prop}{es:List Ty}(hv:∀x:AV,x.cells.length=es.length->x=nO x.cells->(∀j,j<es.length->dZ (es.getD j .bool) (x.cells.getD j .top))->∃a,x=e a/\wf a){x:AV}(h:dZ (.slice es) x):∃l:List α,x=.list es.length (l.map e)/\l.length<=maxLen/\∀a,a∈l->wf a:=by cases h with|slice _ xs hn hl hx=>(have:∀xs:List AV,(∀x,x∈xs->∃a,x=e a/\wf a)->∃l:List α,xs=l.map e/\∀a,a∈l->wf a:=by intro xs;induction xs with|nil=>exact λ _=>⟨[],rfl,λ a h=>by simp at h⟩|cons x xs ih=>intro h;obtain⟨a,rfl,ha⟩:=h x Ψ;obtain⟨l,rfl,hl⟩:=ih λ y hy=>h y (by simp[hy]);exact⟨a::l,rfl,λ b hb=>(zC.1 hb).elim (λ he=>he▸ha) (λ hb=>hl b hb)⟩);obtain⟨l,rfl,hw⟩:=this xs λ x q=>hv x (hl x q).1 (hl x q).2 (λ j hj=>hx x j q hj);exact⟨l,rfl,by simpa using hn,hw⟩
end
open Go.Proofs.YtodofdnlhoknhaaGreatDoor
theorem xPc:laidOutB Tryz.prog:=Θ
theorem xPj:ownKnob Tryz.prog.godebug=none:=Θ
theorem xPi:Tryz.prog.globals.size<Tryz.prog.low:=of_decide_eq_true Θ
noncomputable def X9:Nat:=(Tryz.prog.globalNamed "internal/strconv.uint64pow10").getD 0
theorem xHL:Rows.laid_internal_strconv_uint64pow10=(Lib.tabData .u64 Lib.pow10Tab:DataW Unit):=Θ
theorem xMG{r:List (String×DataW Unit)}{a b:String×DataW Unit}(hl:r=[a,b,("internal/strconv.uint64pow10",Rows.laid_internal_strconv_uint64pow10)])(hp:(r.all λ x=>x.2.handleName?.isNone))(hL:laidMetH Tryz.prog r W)(q:W.ShapedOpen Tryz.prog):xQa W:=by rw[MakeChecks.laidMetH_plain _ _ _ hp]at hL;subst hl;refine⟨q,xBu q xPi,?_⟩;have h:=hL.tail.tail;rw[xHL]at h;exact Lib.tabIs_of_head (g:=X9) (t:=(Tryz.prog.globals[X9]?).map (·.type) |>.getD 0) (e:=185) (n:=20) Θ Θ Θ Θ Θ Θ h
def yY:List Ty:=[.int .i64,.int .i64,.str]
def yX:List Ty:=[.slice yY,.int .i64,.int .i64]
def LV(n:Int):Prop:=(Lit.int .i64 n).wf
def M.Fc.wf(x:M.Fc):Prop:=M.Row.wf x.r/\LV x.p.1/\LV x.p.2
theorem xJB(x:AV)(hl:x.cells.length=yY.length)(he:x=nO x.cells)(hx:∀j,j<yY.length->dZ (yY.getD j .bool) (x.cells.getD j .top)):∃a,x=M.encV a/\M.Val.wf a:=by generalize x.cells=cs at *;match cs,hl with|[c0,c1,c2],_=>have h0:=hx 0 (by decide);have h1:=hx 1 (by decide);have h2:=hx 2 (by decide);change dZ (.int .i64) c0 at h0;change dZ (.int .i64) c1 at h1;change dZ .str c2 at h2;cases h0 with|int _ k hk=>cases h1 with|int _ i hi=>cases h2 with|str t ht=>exact⟨⟨k,i,t⟩,he,hk,hi,ht⟩
theorem xJA{x:AV}(h:dZ (.slice yY) x):∃l:M.Row,x=M.encR l/\M.Row.wf l:=by obtain⟨l,rfl,h1,h2⟩:=Sv xJB h;exact⟨l,rfl,h1,h2⟩
theorem xJy(x:AV)(hl:x.cells.length=yX.length)(he:x=nO x.cells)(hx:∀j,j<yX.length->dZ (yX.getD j .bool) (x.cells.getD j .top)):∃a,x=M.encF a/\M.Fc.wf a:=by generalize x.cells=cs at *;match cs,hl with|[c0,c1,c2],_=>have h0:=hx 0 (by decide);have h1:=hx 1 (by decide);have h2:=hx 2 (by decide);change dZ (.slice yY) c0 at h0;change dZ (.int .i64) c1 at h1;change dZ (.int .i64) c2 at h2;obtain⟨l,rfl,hw⟩:=xJA h0;cases h1 with|int _ k hk=>cases h2 with|int _ i hi=>exact⟨⟨l,(k,i)⟩,he,hw,hk,hi⟩
def jt:List Ty:=[.int .i64,.int .i64]
section
variable{H:Type}{enc:TypeId × Value->H}{w:World}{base b:Nat}{sp:Nat->Bool}{held:Bool}{v:Value}{d:DataW H}{ps:List MemPlace}
theorem xHG{P:Program}{t:TypeId}{n:Nat}{Ts:List Ty}{fs:Array Field}(ht:P.underlying t=some (.struct fs))(hf:flat P n t=some Ts)(q:Value.okWide P w .any base t v)(hd:DataW.Trod enc P w b sp held t v d ps):∃cs:List AV,aD w (λ _=>False) er v (.agg cs)/\cs.length=Ts.length/\(∀j,j<Ts.length->dZ (Ts.getD j .bool) (cs.getD j .top))/\∀μ:DataW H->Nat,lr μ->AV.wts cs<=μ d:=by(obtain⟨vs,rfl,_⟩:=okWide_struct ht q;obtain⟨fuel,J⟩:=hd;obtain⟨xs,ha,hw⟩:=KQ n t Ts hf fuel _ _ J;obtain⟨l1,l2⟩:=ha.len;have l1':vs.size=Ts.length:=by simpa[Value.cells]using l1);refine⟨xs,.agg vs xs Ω λ i hi=>?_,l2,λ j hj=>(ha.get j hj).2,λ μ hμ=>hw μ hμ⟩;have:=(ha.get i Ω).1;simpa[Value.cells,z7,zu]using this
theorem xI2(q:Value.okWide Tryz.prog w .any base 3 v)(hd:DataW.Trod enc Tryz.prog w b sp held 3 v d ps):∃m:Int,aD w (λ _=>False) er v (.int .i64 m)/\(∀μ:DataW H->Nat,lr μ->(AV.int .i64 m).wt<=μ d)/\(Lit.int .i64 m).wf:=by obtain⟨m,h1,h2,h3⟩:=xKM Tryz.underlying3 q hd;exact⟨m,h1,h3,h2⟩
end
theorem xIN:flat Tryz.prog 9 25=some [.slice [.int .i64],.slice yX]:=Θ
theorem xJz(x:AV)(hl:x.cells.length=[Ty.int .i64].length)(he:x=nO x.cells)(hx:∀j,j<[Ty.int .i64].length->dZ ([Ty.int .i64].getD j .bool) (x.cells.getD j .top)):∃a,x=M.encN a/\LV a:=by generalize x.cells=cs at *;match cs,hl with|[c0],_=>have h0:=hx 0 (by decide);change dZ (.int .i64) c0 at h0;cases h0 with|int _ k hk=>exact⟨k,he,hk⟩
section
variable{H:Type}{enc:TypeId × Value->H}{w:World}{base b:Nat}{sp:Nat->Bool}{held:Bool}{v:Value}{d:DataW H}{ps:List MemPlace}
theorem Vc(q:Value.okWide Tryz.prog w .any base 25 v)(hd:DataW.Trod enc Tryz.prog w b sp held 25 v d ps):∃r:List Int×List M.Fc,aD w (λ _=>False) er v (.agg [.list 1 (r.1.map M.encN),.list 3 (r.2.map M.encF)])/\(∀μ:DataW H->Nat,lr μ->(AV.agg [.list 1 (r.1.map M.encN),.list 3 (r.2.map M.encF)]).wt<=μ d)/\(∀y,y∈r.2->y.wf):=by obtain⟨cs,h,hl,hx,hB⟩:=xHG Tryz.underlying25 xIN q hd;match cs,hl with|[c0,c1],_=>have h0:=hx 0 (by decide);have h1:=hx 1 (by decide);change dZ (.slice [.int .i64]) c0 at h0;change dZ (.slice yX) c1 at h1;obtain⟨l0,rfl,_⟩:=Sv (es:=[.int .i64]) xJz h0;obtain⟨l1,rfl,w1⟩:=Sv (es:=yX) xJy h1;exact⟨(l0,l1),h,λ μ hμ=>hB μ hμ,w1.2⟩
end
end Go.Sim
namespace Go.Sim.M
open Go.RowKit Go.Sim.Srt
def cK{α:Type}(c:α->α->Int)(l:List α):Prop:=l.Pairwise λ x y=>c x y<0
def Cm.self{α:Type}{c:α->α->Int}(h:Cm c)(x:α):c x x=0:=by have:=h.swap x x;omega
def cK.nodup{α:Type}{c:α->α->Int}(hc:Cm c){l:List α}(h:cK c l):l.Nodup:=List.Pairwise.imp (λ{x y} q he=>by subst he;rw[hc.self]at q;omega) h
def cK.sorted{α:Type}{c:α->α->Int}{l:List α}(h:cK c l):aH c l:=List.Pairwise.imp (λ q=>by omega) h
def QE{α:Type}{c:α->α->Int}(hc:Cm c)(h0:∀x y,c x y=0->x=y){l m:List α}(hl:cK c l)(hm:cK c m)(h:∀x,x∈l↔x∈m):l=m:=Kw hc h0 ((List.perm_ext_iff_of_nodup (hl.nodup hc) (hm.nodup hc)).2 h) hl.sorted hm.sorted
def xH5{α:Type}{c:α->α->Int}(h0:∀x y,c x y=0->x=y){l:List α}(hs:aH c l)(hn:l.Nodup):cK c l:=(hs.and hn).imp λ{x y} h=>by have:=h.1;have h2:=h.2;by_cases he:c x y=0;exact absurd (h0 x y he) h2;omega
def Wr(x y:Int):kN x y=if x<y then -1 else if y<x then 1 else 0:=rfl
variable {p:aF}
def vN{q:aF}:dh p q<=0↔p.1<q.1\/p.1=q.1/\p.2<=q.2:=by unfold dh wG;simp only[Wr];repeat' split;all_goals omega
def KK(p q:aF):dh q p=-(dh p q):=by unfold dh wG;simp only[Wr];repeat' split;all_goals omega
def N6:Cm dh:=⟨KK,λ x y z h1 h2=>by rw[vN]at *;omega⟩
def KL(p q:aF)(h:dh p q=0):p=q:=by(have h1:dh p q<=0:=Ω);(have h2:dh q p<=0:=by rw[KK];omega);rw[vN]at h1 h2;exact Prod.ext Ω Ω
def xH3{l:List aF}(h:bA (p::l)):bA l:=⟨λ q hq=>h.1 q (by simp[hq]),(zM.1 h.2).2⟩
def Sk:∀{A:List aF},bA A->∀t,A.countP (aG · t)=if inL A t then 1 else 0|[],_,t=>by simp[pQ]|p::A,h,t=>by have ih:=Sk (xH3 h) t;rw[List.countP_cons,ih,yE];cases hp:aG p t with|false=>simp|true=>rw[Sr h hp];simp
def Ll{A:List aF}(h:bA A)(h0:∀t,inL A t=false):A=[]:=Ks h Cq λ t=>by rw[h0,pQ]
def Xi(N:Nat):∀n:Nat,((List.range n).map λ h=>if h<N then 1 else 0).sum=min n N|0=>by simp|n+1=>by rw[List.range_succ,zx,List.sum_append,Xi N n];simp;split<;>omega
structure bD (N:Int->Nat) (P:List aF):Prop where
 sorted:aH dh P
 lev:∃(A:Nat->List aF)(H:Nat),(∀t,N t<=H)/\(∀h,bA (A h)/\∀t,inL (A h) t=decide (h<N t))/\P.Perm ((List.range H).flatMap A)
def FV(A:Nat->List aF)(H:Nat)(h0:∀h,H<=h->A h=[]):∀d,(List.range (H+d)).flatMap A=(List.range H).flatMap A|0=>rfl|d+1=>by rw[<-Nat.add_assoc,List.range_succ,List.flatMap_append,FV A H h0 d,zR,h0 (H+d) Ω];simp
variable {N:Int->Nat}{P:List aF}
def bD.unique{P':List aF}(h:bD N P)(h':bD N P'):P=P':=by(obtain⟨A,H,h1,h2,h3⟩:=h.lev;obtain⟨A',H',J,q,O⟩:=h'.lev;obtain rfl:A=A':=funext λ k=>Ks (h2 k).1 (q k).1 λ t=>by rw[(h2 k).2,(q k).2]);(have nil:∀K,(∀t,N t<=K)->∀k,K<=k->A k=[]:=λ K hK k hk=>Ll (h2 k).1 λ t=>by rw[(h2 k).2];have:=hK t;simp;omega);refine Kw N6 KL (h3.trans (List.Perm.trans (.of_eq ?_) O.symm)) h.sorted h'.sorted;rcases Nat.le_total H H' with Q|Q;have:=FV A H (nil H h1) (H' - H);rw[show H+(H' - H)=H' by omega]at this;exact this.symm;have:=FV A H' (nil H' J) (H - H');rw[show H'+(H - H')=H by omega]at this;exact this
def bD.count(h:bD N P)(t:Int):P.countP (aG · t)=N t:=by(obtain⟨A,H,h1,h2,h3⟩:=h.lev;rw[h3.countP_eq,List.countP_flatMap];have:(List.countP (λ x=>aG x t)∘A)=λ k=>if k<N t then 1 else 0:=funext λ k=>by show List.countP (aG · t) (A k)=_;rw[Sk (h2 k).1,(h2 k).2];simp);rw[this,Xi];have:=h1 t;omega
def bD.valid(h:bD N P):∀p,p∈P->pv p:=λ p hp=>by obtain⟨A,H,h1,h2,h3⟩:=h.lev;obtain⟨k,_,hk⟩:=y5.1 (h3.mem_iff.1 hp);exact(h2 k).1.1 p hk
variable {k:Nat}
def Tu{A:List aF}(hs:bA A)(hN:∀t,inL A t=decide (k<N t))(hp:p∈A):(∀t,p.1<=t->t<p.2->k<N t)/\N (p.1 - 1)<=k/\N p.2<=k:=by
 have hv:=iF.1 (hs.1 p hp);refine⟨λ t h1 h2=>?_,?_,?_⟩
 . have:inL A t:=pi.2 ⟨p,hp,hs.1 p hp,h1,h2⟩;rw[hN]at this;simpa using this
 . have:inL A (p.1 - 1)=false:=by
    cases hc:inL A (p.1 - 1)with
    |false=>rfl
    |true=>
     obtain⟨q,hq,Q,h1,h2⟩:=pi.1 hc;have hne:p≠q:=λ e=>by subst e;omega
     rcases pairwise_mem hs.2 hp hq hne with h|h<;>omega
   rw[hN]at this;simpa using this
 . have:inL A p.2=false:=by
    cases hc:inL A p.2 with
    |false=>rfl
    |true=>
     obtain⟨q,hq,Q,h1,h2⟩:=pi.1 hc;have hne:p≠q:=λ e=>by subst e;omega
     rcases pairwise_mem hs.2 hp hq hne with h|h<;>omega
   rw[hN]at this;simpa using this
where
 pairwise_mem {l:List aF} (h:l.Pairwise λ p q=>p.2<q.1) {p q:aF} (hp:p∈l) (hq:q∈l) (hne:p≠q):p.2<q.1\/q.2<p.1:=by
  induction l with
  |nil=>simp at hp
  |cons x l ih=>
   obtain⟨h1,h2⟩:=zM.1 h;rcases zC.1 hp with e1|O
   . rcases zC.1 hq with e2|J
     . exact absurd (e1.trans e2.symm) hne
     . exact .inl (e1▸h1 q J)
   . rcases zC.1 hq with e2|J
     . exact .inr (e2▸h1 p O)
     . exact ih h2 O J
def cnt(l:List Fc)(r:Row)(t:Int):Nat:=l.countP λ f=>decide (f.r=r)&&aG f.p t
def ry(l:List Fc)(R:List Row):Prop:=cK aK R/\∀r,r∈R↔∃f,f∈l/\f.r=r/\pv f.p
variable {t:Int}
def ph{l:List Fc}{r:Row}:0<cnt l r t↔∃f,f∈l/\f.r=r/\aG f.p t:=by unfold cnt;rw[List.countP_pos_iff];simp
def UY(h:pv p):aG p p.1:=by have:=iF.1 h;exact jB.2 ⟨h,by omega,by omega⟩
def T8(h:aG p t):pv p:=(jB.1 h).1
def Gk{l:List Fc}{r:Row}:(∃f,f∈l/\f.r=r/\pv f.p)↔∃t,0<cnt l r t:=by constructor;rintro⟨f,h1,h2,h3⟩;exact⟨f.p.1,ph.2 ⟨f,h1,h2,UY h3⟩⟩;rintro⟨t,h⟩;obtain⟨f,h1,h2,h3⟩:=ph.1 h;exact⟨f,h1,h2,T8 h3⟩
variable {R:List Row}{l':List Fc}
def ry.unique{l:List Fc}{R':List Row}(h:ry l R)(h':ry l' R')(hc:∀r t,cnt l r t=cnt l' r t):R=R':=QE mj (λ _ _=>tH) h.1 h'.1 λ r=>by rw[h.2,h'.2,Gk,Gk];simp only[hc]
def dB(R:List Row)(L:Row->List aF):List Fc:=R.flatMap λ r=>(L r).map λ p=>⟨r,p⟩
def RJ(a b:List Fc)(r:Row)(t:Int):cnt (a++b) r t=cnt a r t+cnt b r t:=List.countP_append
def Vn{a b:List Fc}(h:a.Perm b)(r:Row)(t:Int):cnt a r t=cnt b r t:=h.countP_eq _
def xKl(r':Row)(P:List aF)(r:Row)(t:Int):cnt (P.map λ p=>(⟨r',p⟩:Fc)) r t=if r'=r then P.countP (aG · t)else 0:=by unfold cnt;rw[List.countP_map];by_cases h:r'=r;rw[if_pos h];congr 1;funext p;simp[h];rw[if_neg h,List.countP_eq_zero];simp[h]
def F7(L:Row->List aF)(r:Row)(t:Int):∀R:List Row,R.Nodup->cnt (dB R L) r t=if r∈R then(L r).countP (aG · t)else 0|[],_=>by simp[dB,cnt]|r'::R,h=>by(obtain⟨h1,h2⟩:=List.nodup_cons.1 h;have e:dB (r'::R) L=((L r').map λ p=>(⟨r',p⟩:Fc))++dB R L:=by simp[dB]);rw[e,RJ,xKl,F7 L r t R h2];by_cases hr:r'=r;subst hr;simp[h1];have:¬ r=r':=λ e=>hr e.symm;simp[hr,this]
def mN(l B:List Fc):Prop:=∃R L,ry l R/\(∀r,r∈R->bD (cnt l r) (L r))/\B=dB R L
def oy(l B:List Fc):Prop:=∃R L,ry l R/\(∀r,r∈R->bA (L r)/\∀t,inL (L r) t=decide (0<cnt l r t))/\B=dB R L
variable {L:Row->List aF}
def Re{L':Row->List aF}(h:∀r,r∈R->L r=L' r):dB R L=dB R L':=by unfold dB;induction R with|nil=>rfl|cons r R ih=>rw[zR,zR,h r Ψ,ih λ x hx=>h x (by simp[hx])]
variable {B':List Fc}
def mN.unique{l B:List Fc}(h:mN l B)(h':mN l' B')(hc:∀r t,cnt l r t=cnt l' r t):B=B':=by obtain⟨R,L,h1,h2,rfl⟩:=h;obtain⟨R',L',J,q,rfl⟩:=h';obtain rfl:=h1.unique J hc;refine Re λ r hr=>(h2 r hr).unique ?_;have:=q r hr;rwa [<-show cnt l r=cnt l' r from funext λ t=>hc r t]at this
def oy.unique{l B:List Fc}(h:oy l B)(h':oy l' B')(hc:∀r t,cnt l r t=cnt l' r t):B=B':=by obtain⟨R,L,h1,h2,rfl⟩:=h;obtain⟨R',L',J,q,rfl⟩:=h';obtain rfl:=h1.unique J hc;exact Re λ r hr=>Ks (h2 r hr).1 (q r hr).1 λ t=>by rw[(h2 r hr).2,(q r hr).2,hc]
def ry.zero{l:List Fc}(h:ry l R){r:Row}(hr:r∉R)(t:Int):cnt l r t=0:=by cases hc:cnt l r t with|zero=>rfl|succ n=>exact absurd ((h.2 r).2 (Gk.2 ⟨t,by omega⟩)) hr
def mN.cntB{l B:List Fc}(h:mN l B)(r:Row)(t:Int):cnt B r t=cnt l r t:=by obtain⟨R,L,h1,h2,rfl⟩:=h;rw[F7 L r t R (h1.1.nodup mj)];split;rename_i hr;exact(h2 r hr).count t;rename_i hr;exact(h1.zero hr t).symm
def Cy{f:Fc}(h:f∈dB R L):f.r∈R/\f.p∈L f.r:=by obtain⟨r,hr,h⟩:=y5.1 h;obtain⟨p,hp,rfl⟩:=zK.1 h;exact⟨hr,hp⟩
def mN.valid{l B:List Fc}(h:mN l B){f:Fc}(hf:f∈B):pv f.p/\∃g,g∈l/\g.r=f.r:=by obtain⟨R,L,h1,h2,rfl⟩:=h;obtain⟨a,b⟩:=Cy hf;refine⟨(h2 _ a).valid _ b,?_⟩;obtain⟨g,g1,g2,_⟩:=(h1.2 _).1 a;exact⟨g,g1,g2⟩
def cY(l:List Fc)(r:Row):List aF:=(l.filter λ f=>decide (f.r=r)&&pv f.p).map (·.p)
def CT(l:List Fc)(r:Row)(t:Int):(cY l r).countP (aG · t)=cnt l r t:=by unfold cY cnt;rw[List.countP_map,List.countP_filter];refine List.countP_congr λ f _=>?_;simp only[Function.comp,zf,zl];constructor;rintro⟨h1,h2,_⟩;exact⟨h2,h1⟩;rintro⟨h1,h2⟩;exact⟨h2,h1,T8 h2⟩
def xJb{l:List Fc}{r:Row}:∀p,p∈cY l r->pv p:=λ p hp=>by obtain⟨f,hf,rfl⟩:=zK.1 hp;have:=List.mem_filter.1 hf;simp only[zf]at this;exact this.2.2
def LC(l:List Fc)(r:Row):(cY l r).length<=l.length:=by unfold cY;rw[za];exact List.length_filter_le _ _
variable {ps:List aF}
def xFr(h1:k<ps.countP (aG · t))(h2:ps.countP (aG · (t - 1))<=k):t∈ps.map (·.1):=by(have:∃p,p∈ps/\aG p t/\aG p (t - 1)=false:=by refine Classical.byContradiction λ hn=>?_;(have:ps.countP (aG · t)<=ps.countP (aG · (t - 1)):=List.countP_mono_left λ p hp h=>by cases hc:aG p (t - 1)with|true=>rfl|false=>exact absurd ⟨p,hp,h,hc⟩ hn);omega);(obtain⟨p,hp,a,b⟩:=this;obtain⟨hv,x,y⟩:=jB.1 a;have:¬ p.1<=t - 1:=λ h=>by rw[jB.2 ⟨hv,h,by omega⟩]at b;cases b);exact zK.2 ⟨p,hp,by omega⟩
def Tt{A:List aF}(hs:bA A)(hN:∀t,inL A t=decide (k<ps.countP (aG · t))):A.length<=ps.length:=by(have hn:(A.map (·.1)).Nodup:=by unfold List.Nodup;rw[List.pairwise_map];refine List.Pairwise.imp_of_mem (λ{p q} hp hq h=>?_) hs.2;have:=iF.1 (hs.1 p hp);omega);(have:(A.map (·.1)) ⊆ ps.map (·.1):=λ t ht=>by obtain⟨p,hp,rfl⟩:=zK.1 ht;obtain⟨a,b,_⟩:=Tu (N:=λ t=>ps.countP (aG · t)) hs hN hp;have hv:=iF.1 (hs.1 p hp);exact xFr (a p.1 (Int.le_refl _) Ω) b);have:=hn.length_le_of_subset this;simpa using this
def bD.len(h:bD (λ t=>ps.countP (aG · t)) P):P.length<=ps.length*ps.length:=by(obtain⟨A,H,h1,h2,h3⟩:=h.lev;have hx:P.length=((List.range ps.length).flatMap A).length:=by(rw[h3.length_eq];have nil:∀k,ps.length<=k->A k=[]:=λ k hk=>Ll (h2 k).1 λ t=>by rw[(h2 k).2];have:=List.countP_le_length (p:=(aG · t)) (l:=ps);simp;omega);(have q:∀k,H<=k->A k=[]:=λ k hk=>Ll (h2 k).1 λ t=>by rw[(h2 k).2];have:=h1 t;simp;omega);rcases Nat.le_total H ps.length with J|J;have:=FV A H q (ps.length - H);rw[show H+(ps.length - H)=ps.length by omega]at this;rw[this];have:=FV A ps.length nil (H - ps.length);rw[show ps.length+(H - ps.length)=H by omega]at this;rw[this]);rw[hx];have:=vJ (g:=A) (c:=ps.length) (List.range ps.length) λ k _=>Tt (h2 k).1 (h2 k).2;simpa using this
def SD{L:Row->List aF}:∀{R:List Row}{l:List Fc},R.Nodup->(∀r,r∈R->(L r).length<=(cY l r).length*(cY l r).length)->(dB R L).length<=l.length*l.length
 |[],l,_,_=>by simp[dB]
 |r::R,l,hn,h=>by
  obtain⟨n1,n2⟩:=List.nodup_cons.1 hn;have e:dB (r::R) L=((L r).map λ p=>(⟨r,p⟩:Fc))++dB R L:=by simp[dB]
  let l2:=l.filter λ f=>!decide (f.r=r)
  have J:∀r',r'∈R->cY l2 r'=cY l r':=λ r' q=>by
   have hne:r'≠r:=λ e=>n1 (e▸q)
   unfold cY;simp only[l2,List.filter_filter];congr 1;refine List.filter_congr λ f _=>?_
   by_cases hf:f.r=r'
   . have:¬ f.r=r:=λ e=>hne (hf▸e)
     simp[hf,hne]
   . simp[hf]
  have ih:=SD (L:=L) (l:=l2) n2 λ r' q=>by rw[J r' q];exact h r' (by simp[q])
  have h1:=h r (by simp)
  have hl:(cY l r).length+l2.length<=l.length:=by
   unfold cY;rw[za];have:=List.length_eq_countP_add_countP (λ f:Fc=>decide (f.r=r)) (l:=l)
   have a1:(l.filter λ f=>decide (f.r=r)&&pv f.p).length<=l.countP λ f=>decide (f.r=r):=by
    rw[<-List.countP_eq_length_filter];exact List.countP_mono_left λ f _ hf=>by simp only[zf]at hf;exact hf.1
   have a2:l2.length=l.countP λ f=>¬ decide (f.r=r)=true:=by
    rw[List.countP_eq_length_filter];simp[l2]
   omega
  rw[e,z8,za];have m1:=Nat.mul_le_mul hl hl;have m2:(cY l r).length*(cY l r).length+l2.length*l2.length<=((cY l r).length+l2.length)*((cY l r).length+l2.length):=by
   rw[Nat.add_mul,Nat.mul_add,Nat.mul_add];omega
  omega
def mN.len{l B:List Fc}(h:mN l B):B.length<=l.length*l.length:=by obtain⟨R,L,h1,h2,rfl⟩:=h;refine SD (h1.1.nodup mj) λ r hr=>?_;have:=h2 r hr;rw[show cnt l r=λ t=>(cY l r).countP (aG · t) from funext λ t=>(CT l r t).symm]at this;exact this.len
abbrev pj(l:List Int):Prop:=l.Pairwise λ x y=>x<y
def eY:List Int->Int->List Int|[],n=>[n]|x::l,n=>if x<n then x::eY l n else if n<x then n::x::l else x::l
def K1:∀(l:List Int)(n x:Int),x∈eY l n↔x=n\/x∈l|[],n,x=>by simp[eY]|y::l,n,x=>by unfold eY;split;rw[zC,K1 l n x,zC];constructor<;>rintro(h|h|h)<;>simp[h];split;simp;(have:y=n:=Ω);subst this;simp
def S2:∀{l:List Int},pj l->∀n,pj (eY l n)|[],_,n=>by simp[eY,pj]|y::l,h,n=>by obtain⟨h1,h2⟩:=zM.1 h;unfold eY;split;refine zM.2 ⟨λ z hz=>?_,S2 h2 n⟩;rcases(K1 l n z).1 hz with rfl|hz;assumption;exact h1 z hz;split;rename_i hn;refine zM.2 ⟨λ z hz=>?_,h⟩;rcases zC.1 hz with rfl|hz;exact hn;have:=h1 z hz;omega;exact h
def Gi:∀(l:List Int)(n:Int),(eY l n).length<=l.length+1
 |[],n=>by simp[eY]
 |y::l,n=>by
  unfold eY;have:=Gi l n;repeat' split
  all_goals simp
  all_goals omega
def S3(n:Int):∀l:List Int,∃m,m<=l.length/\(∀k(h:k<m)(h2:k<l.length),l[k]<n)/\(∀h:m<l.length,¬ l[m]<n)/\eY l n=l.take m++(if h:m<l.length then(if n<l[m]then n::l.drop m else l.drop m)else[n])|[]=>⟨0,zd _,λ k h=>by omega,λ h=>by simp at h,by simp[eY]⟩|y::l=>by by_cases hy:y<n;obtain⟨m,h1,h2,h3,h4⟩:=S3 n l;refine⟨m+1,by simpa using h1,λ k h hk=>?_,λ h=>?_,?_⟩;(cases k with|zero=>simpa using hy|succ k=>simpa using h2 k Ω (by simpa using hk));simpa using h3 (by simpa using h);unfold eY;rw[if_pos hy,h4];by_cases hm:m<l.length<;>simp[hm];refine⟨0,zQ _,λ k h=>by omega,λ _=>by simpa using hy,?_⟩;unfold eY;rw[if_neg hy];by_cases h:n<y<;>simp[h]
structure aL (N:Int->Int) (T:Int) (S:List aF):Prop where
 asc:S.Pairwise λ a b=>a.1<b.1
 mem:∀s,s∈S↔0<=s.1/\s.1<T/\s.2=N s.1/\(s.1=0\/N (s.1 - 1)≠s.2)
 last:0<T->∃S' f,S=S'++[(f,N (T - 1))]
def aL.nil(N:Int->Int):aL N 0 []:=⟨List.Pairwise.nil,λ s=>by simp;omega,λ h=>by omega⟩
def cI(S:List aF)(f n:Int):List aF:=match S.getLast? with|some s=>if s.2=n then S else S++[(f,n)]|none=>S++[(f,n)]
variable {S:List aF}{T:Int}
def aL.unique{N:Int->Int}{S':List aF}(h:aL N T S)(h':aL N T S'):S=S':=
 QE N6 KL (h.asc.imp fun {x y} q=>by
  have h1:dh x y<=0:=vN.2 (.inl q);by_cases h0:dh x y=0
  . have:=KL x y h0;subst this;omega
  . omega) (h'.asc.imp fun {x y} q=>by
  have h1:dh x y<=0:=vN.2 (.inl q);by_cases h0:dh x y=0
  . have:=KL x y h0;subst this;omega
  . omega) fun s=>by rw [h.mem,h'.mem]
def aL.put{N:Int->Int}{T':Int}(h:aL N T S)(h0:0<=T)(q:T<T')(hc:∀t,T<=t->t<T'->N t=N T):aL N T' (cI S T (N T)):=by rcases Int.lt_or_eq_of_le h0 with hp|hz;obtain⟨S',f,rfl⟩:=h.last hp;unfold cI;rw[List.getLast?_append];simp only[List.getLast?_singleton,Option.some_or];by_cases he:N (T - 1)=N T;rw[if_pos he];refine⟨h.asc,λ s=>?_,λ _=>⟨S',f,by rw[he,hc (T' - 1) Ω Ω]⟩⟩;rw[h.mem];constructor;rintro⟨a,b,c,d⟩;exact⟨a,by omega,c,d⟩;rintro⟨a,b,c,d⟩;refine⟨a,?_,c,d⟩;rcases Int.lt_or_le s.1 T with hs|hs;exact hs;exfalso;have e1:=hc s.1 hs b;rcases d with d|d;omega;rcases Int.lt_or_eq_of_le hs with h2|h2;have e2:=hc (s.1 - 1) Ω Ω;exact d (by rw[e2,c,e1]);rw[<-h2]at d c;exact d (by rw[he,c]);rw[if_neg he];refine⟨?_,λ s=>?_,λ _=>⟨_,T,by rw[hc (T' - 1) Ω Ω]⟩⟩;rw[List.pairwise_append];refine⟨h.asc,List.pairwise_singleton _ _,λ a ha b hb=>?_⟩;simp only[zv]at hb;subst hb;exact((h.mem a).1 ha).2.1;rw[zG,h.mem,zv];constructor;rintro(⟨a,b,c,d⟩|rfl);exact⟨a,by omega,c,d⟩;exact⟨h0,q,rfl,.inr he⟩;rintro⟨a,b,c,d⟩;rcases Int.lt_or_le s.1 T with hs|hs;exact .inl ⟨a,hs,c,d⟩;right;have e1:=hc s.1 hs b;rcases Int.lt_or_eq_of_le hs with h2|h2;exfalso;have e2:=hc (s.1 - 1) Ω Ω;rcases d with d|d;omega;exact d (by rw[e2,c,e1]);exact Prod.ext h2.symm (by rw[c,e1]);(subst hz;have hS:S=[]:=by rw[List.eq_nil_iff_forall_not_mem];intro s hs;have:=(h.mem s).1 hs;omega);subst hS;refine⟨by simp[cI],λ s=>?_,λ _=>⟨[],0,by simp[cI];exact(hc (T' - 1) Ω Ω).symm⟩⟩;simp only[cI,List.getLast?_nil,zU,zv];constructor;rintro rfl;exact⟨Int.le_refl _,q,rfl,.inl rfl⟩;rintro⟨a,b,c,d⟩;have e1:=hc s.1 a b;rcases Int.lt_or_eq_of_le a with h2|h2;exfalso;have e2:=hc (s.1 - 1) Ω Ω;rcases d with d|d;omega;exact d (by rw[e2,c,e1]);exact Prod.ext h2.symm (by rw[c,e1])
def yG(S:List aF)(f n:Int):(cI S f n).length<=S.length+1:=by
 unfold cI;repeat' split
 all_goals simp
def cM(l:List gG)(t:Int):Int:=(l.map λ c=>if aG c.1 t then c.2 else 0).sum
def CF(c:gG)(l:List gG)(t:Int):cM (c::l) t=(if aG c.1 t then c.2 else 0)+cM l t:=by simp[cM]
def xD2(a b:List gG)(t:Int):cM (a++b) t=cM a t+cM b t:=by simp[cM]
def VF(t:Int):cM [] t=0:=rfl
def xzy{T':Int}:∀{l:List gG},(∀c,c∈l->pv c.1->¬ (T<c.1.1/\c.1.1<T')/\¬ (T<c.1.2/\c.1.2<T'))->∀t,T<=t->t<T'->cM l t=cM l T|[],_,t,_,_=>rfl|c::l,h,t,h1,h2=>by rw[CF,CF,xzy (λ c hc=>h c (by simp[hc])) t h1 h2];congr 2;cases hv:pv c.1 with|false=>simp[aG,hv]|true=>have:=h c Ψ hv;simp only[aG,hv,Bool.true_and,zf,zl,eq_iff_iff];omega
def VE(B:Int)(hB:0<=B)(t:Int):∀l:List gG,(∀c,c∈l->-B<=c.2/\c.2<=B)->-(B*l.length)<=cM l t/\cM l t<=B*l.length|[],_=>by simp[VF]|c::l,h=>by have ih:=VE B hB t l λ c hc=>h c (by simp[hc]);have hc:=h c Ψ;rw[CF,zF,show B*((l.length+1:Nat):Int)=B*(l.length:Int)+B by rw[Int.natCast_add,Int.mul_add];simp];split<;>omega
theorem Ss(ps:List aF)(t:Int):cM (ps.map λ p=>(p,(1:Int))) t=(ps.countP (aG · t):Nat):=by induction ps with|nil=>rfl|cons p ps ih=>rw[zV,CF,ih,List.countP_cons];split<;>simp_all<;>omega
def xMF(l:List Int)(n:Int)(hl:l.length<=1048576)(m:Nat)(hm:m<=l.length)(h1:∀k(h:k<m)(h2:k<l.length),l[k]<n)(h2:∀h:m<l.length,¬ l[m]<n):aB (xC (l.map encN) n) ((0:Nat),(0:Int),[])=some (m,(m:Int),(l.take m).map encN):=by
 refine r6 (λ k=>((k,(k:Int),(l.take k).map encN):Nat×Int×List AV)) m _ (λ k hk=>?_) ?_ m 0 Ω;have q:k<l.length:=Ω
 have i1:(k:Int)<(l.length:Int):=Ω
 have i2:=h1 k hk q;have m1:(k+1)*8<=140737488355328:=Ω
 have m2:k+1<=4611686018427387904:=Ω
 have tl:(l.take k).length=k:=by rw[zt];omega
 have gf:(l.map encN).getD k .top=encN l[k]:=cH _ _ _ q;simp only[xC,Ew,bR,q,i1,i2,gf,cN,sN,tl,m1,m2,dN (n:=k) Ω];rw[List.take_add_one,ze q,zx];rfl;by_cases hml:m<l.length;have i1:(m:Int)<(l.length:Int):=Ω
 have i2:=h2 hml;have gf:(l.map encN).getD m .top=encN l[m]:=cH _ _ _ hml;simp only[xC,Ew,bR,hml,i1,i2,gf,cN,sN];have i1:¬ (m:Int)<(l.length:Int):=Ω
 simp only[xC,Ew,bR,i1]
def NN(l:List Int)(hl:l.length<=1048576):∀(d i:Nat)(D:List Int),i+d=l.length->D.length<=1048576+i->
  aB (xD (l.map encN)) (D.length,(i:Int),D.map encN)=some ((D++l.drop i).length,(D++l.drop i).map encN)
 |0,i,D,h,hD=>by
  obtain rfl:i=l.length:=by omega
  rw[zq (zd _),zD];refine cQ ?_;simp only[xD,Iu,za,zy,zm,bE,aI]
 |d+1,i,D,h,hD=>by
  have q:i<l.length:=by omega
  have i1:(i:Int)<(l.length:Int):=by omega
  have m1:(D.length+1)*8<=140737488355328:=by omega
  have m2:D.length+1<=4611686018427387904:=by omega
  have gf:(l.map encN).getD i .top=encN l[i]:=cH _ _ _ q;rw[eH (s':=((D++[l[i]]).length,((i+1:Nat):Int),(D++[l[i]]).map encN)) ?_,NN l hl d (i+1) (D++[l[i]]) (by omega) (by rw[z8];simp;omega),jr q,zw]
  . rfl
  . simp only[xD,Iu,bR,q,i1,gf,cN,sN,m1,m2,dN (n:=i) (by omega)]
    simp[encN]
def T9(l:List Int)(n:Int)(hl:l.length<=1048576):yj (l.map encN) n=some ((eY l n).map encN):=by
 obtain⟨m,hm,h1,h2,h3⟩:=S3 n l;have e0:=xMF l n hl m hm h1 h2;have tl:(l.take m).length=m:=by rw[zt];omega
 have e1:=NN l hl (l.length - m) m (l.take m++[n]) Ω (by rw[z8,tl];simp;omega);have e2:=NN l hl (l.length - m) m (l.take m) Ω Ω;rw[z8,tl,zx]at e1;rw[tl]at e2;have e1:aB (xD (l.map encN)) (m+1,(m:Int),(l.take m).map encN++[AV.int .i64 n])=some ((l.take m++[n]++l.drop m).length,(l.take m++[n]++l.drop m).map encN):=e1;have m1:(m+1)*8<=140737488355328:=Ω
 have m2:m+1<=4611686018427387904:=Ω
 rw[h3];unfold yj P7 Pu;by_cases hml:m<l.length;have i1:((m:Int)==(l.length:Int))=false:=by simp;omega
 have i2:(m:Int)<(l.length:Int):=Ω
 have gf:(l.map encN).getD m .top=encN l[m]:=cH _ _ _ hml;rw[dif_pos hml];by_cases hn:n<l[m];have i3:l[m]>n:=hn;simp only[qO,yf,EN,yg,EP,BO,IW,rQ,e0,zk,zh,za,i1,i2,hml,gf,cN,sN,i3,m1,m2,tl,e1,bR,po,↓reduceIte,zw,List.singleton_append];have i3:¬ l[m]>n:=hn;simp only[qO,yf,EN,yg,EP,BO,IW,rQ,e0,zk,zh,za,i1,i2,hml,gf,cN,sN,i3,e2,bR,po,↓reduceIte];have i1:((m:Int)==(l.length:Int)):=by simp;omega
 rw[dif_neg hml];have hd:l.drop m=[]:=zq Ω;rw[hd,zD]at e1;simp only[qO,yf,EN,yg,EP,BO,IW,rQ,e0,zk,zh,za,i1,m1,m2,tl,e1,bR,po]
def Kv{α:Type}(l:List α):l=[]\/∃m a,l=m++[a]:=by rcases List.eq_nil_or_concat l with h|⟨m,a,h⟩;exact .inl h;exact .inr ⟨m,a,by rw[h,List.concat_eq_append]⟩
def CO(S:List aF)(f n:Int)(hS:S.length<=16777216):∃p,nW S.length f n (S.map aA)=some p/\br p.1 p.2.1.1 p.2.2.1=(cI S f n).length/\br p.1 p.2.1.2 p.2.2.2=(cI S f n).map aA:=by
 have m1:(S.length+1)*16<=140737488355328:=Ω
 have m2:S.length+1<=4611686018427387904:=Ω
 rcases Kv S with rfl|⟨S',s,rfl⟩;refine⟨(false,(0,[]),(1,[aA (f,n)])),?_,rfl,rfl⟩;unfold nW Ci Cb;simp[dY,aA,aI];have hk:IntKind.i64.wrap (((S'++[s]).length:Int) - 1)=((S'.length:Nat):Int):=by rw[z8,gx (by simp<;>omega) (by simp at hS|-<;>omega)];simp
 have g1:((S'++[s]).length:Int)>0:=by simp<;>omega
 have g2:(S'.length:Int)<((S'++[s]).length:Int):=by simp<;>omega
 have g3:S'.length<(S'++[s]).length:=by simp
 have gf:((S'++[s]).map aA).getD S'.length .top=aA s:=by rw[cH _ _ _ Ψ];simp
 have hl:(S'++[s]).getLast?=some s:=by simp
 by_cases he:s.2=n;refine⟨(true,((S'++[s]).length,(S'++[s]).map aA),(0,[])),?_,?_,?_⟩;unfold nW Ci Cb;simp only[hk,g1,g2,g3,gf,bR,iq,ir,lP,sP,iB,iC,he];simp only[aW,cI,hl,if_pos he,aI];simp only[aW,cI,hl,if_pos he,aI];have he':(s.2==n)=false:=by simp[he]
 refine⟨(false,(0,[]),((S'++[s]).length+1,(S'++[s]).map aA++[aA (f,n)])),?_,?_,?_⟩;unfold nW Ci Cb;simp only[hk,g1,g2,g3,gf,bR,iq,ir,lP,sP,iB,iC,he',m1,m2];rfl;simp only[bE,cI,hl,if_neg he,aI];simp;simp only[bE,cI,hl,if_neg he,aI];simp
def ik(l:List gG):List Int:=l.foldl (λ P c=>if pv c.1 then eY (eY P c.1.1) c.1.2 else P) [0]
def Vi(l:List gG)(c:gG):ik (l++[c])=if pv c.1 then eY (eY (ik l) c.1.1) c.1.2 else ik l:=by simp[ik]
def Vj:∀l:List gG,pj (ik l.reverse)/\∀x,x∈ik l.reverse↔x=0\/∃c,c∈l/\pv c.1/\(x=c.1.1\/x=c.1.2)|[]=>by simp[ik,pj]|c::l=>by obtain⟨h1,h2⟩:=Vj l;rw[List.reverse_cons,Vi];split;rename_i hv;refine⟨S2 (S2 h1 _) _,λ x=>?_⟩;rw[K1,K1,h2];constructor;rintro(h|h|h|⟨c',a,b,d⟩);exact .inr ⟨c,by simp,hv,.inr h⟩;exact .inr ⟨c,by simp,hv,.inl h⟩;exact .inl h;exact .inr ⟨c',by simp[a],b,d⟩;rintro(h|⟨c',a,b,d⟩);exact .inr (.inr (.inl h));rcases zC.1 a with rfl|a;rcases d with d|d;exact .inr (.inl d);exact .inl d;exact .inr (.inr (.inr ⟨c',a,b,d⟩));rename_i hv;refine⟨h1,λ x=>?_⟩;rw[h2];constructor;rintro(h|⟨c',a,b,d⟩);exact .inl h;exact .inr ⟨c',by simp[a],b,d⟩;rintro(h|⟨c',a,b,d⟩);exact .inl h;rcases zC.1 a with rfl|a;exact absurd b hv;exact .inr ⟨c',a,b,d⟩
def xMS(l:List gG):pj (ik l)/\∀x,x∈ik l↔x=0\/∃c,c∈l/\pv c.1/\(x=c.1.1\/x=c.1.2):=by have:=Vj l.reverse;simpa using this
def xNX(l:List gG)(hl:l.length<=262144):aB (BP (l.map dO)) ([AV.int IntKind.i64 (0:Int)],(0:Int))=some ((ik l).map encN)/\(ik l).length<=2*l.length+1:=by(have q:∀l:List gG,(ik l.reverse).length<=2*l.length+1:=λ l=>by induction l with|nil=>simp[ik]|cons c l ih=>rw[List.reverse_cons,Vi];have a1:=Gi (ik l.reverse) c.1.1;have a2:=Gi (eY (ik l.reverse) c.1.1) c.1.2;split<;>simp<;>omega);refine⟨?_,by have:=q l.reverse;simpa using this⟩;refine Ub l (λ P c=>if pv c.1 then eY (eY P c.1.1) c.1.2 else P) (λ n b=>(b.map encN,(n:Int))) (λ n b=>b.length<=2*n+1) (λ n h b hb=>?_) l.length 0 [0] Ω Ψ ?_;(have h1:(n:Int)<(l.length:Int):=Ω);have gf:(l.map dO).getD n .top=dO l[n]:=cH _ _ _ h;have a1:=Gi b l[n].1.1;have a2:=Gi (eY b l[n].1.1) l[n].1.2;have i1:=T9 b l[n].1.1 Ω;have i2:=T9 (eY b l[n].1.1) l[n].1.2 Ω;refine⟨?_,by split<;>omega⟩;simp only[BP,JW,bR,h,h1,gf,L3,L4,L5,lC,sC,Nh,Ng,CD,i1,i2,dN (n:=n) Ω,sC0,sC1];cases pv l[n].1<;>simp[aW,bE,aI];simp only[zr];simp only[BP,JW,za,zy,zm,bE,aI];rfl
def si(l:List gG):Prop:=l.length<=262144/\∀c,c∈l->-1099511627776<=c.2/\c.2<=1099511627776
def xNY(l:List gG)(hl:si l)(P:List Int)(hP:P.length<=1048576)(on k:Nat)(hk:k<P.length)(ox:List AV):aB (BR (l.map dO) (P.map encN) on (k:Int)) ((0:Int),(0:Int),ox)=some (cM l P[k],ox):=by
 have k1:(k:Int)<(P.length:Int):=Ω
 have gk:(P.map encN).getD k .top=encN P[k]:=cH _ _ _ hk;have J:=hl.1;refine r6 (λ i=>((cM (l.take i) P[k],(i:Int),ox):Int×Int×List AV)) l.length _ (λ i hi=>?_) ?_ l.length 0 Ω;have h1:(i:Int)<(l.length:Int):=Ω
 have gf:(l.map dO).getD i .top=dO l[i]:=cH _ _ _ hi;have hs:cM (l.take (i+1)) P[k]=cM (l.take i) P[k]+if aG l[i].1 P[k] then l[i].2 else 0:=by rw[List.take_add_one,ze hi,xD2];show _+cM [l[i]] P[k]=_;rw[CF,VF];omega
 have hb:=VE 1099511627776 Ω P[k] (l.take i) λ c hc=>hl.2 c (List.mem_of_mem_take hc);have q:(l.take i).length=i:=by rw[zt];omega
 rw[q]at hb;have hc:=hl.2 l[i] (zo hi);have hw:aG l[i].1 P[k]->IntKind.i64.wrap (cM (l.take i) P[k]+l[i].2)=cM (l.take i) P[k]+l[i].2:=λ _=>gx Ω Ω;simp only[BR,JX,bR,hi,h1,hk,k1,gf,gk,L3,L4,L5,lC,sC,Nh,Ng,cN,sN,Vk,dN (n:=i) Ω,hs];cases hc:aG l[i].1 P[k]with|false=>simp[bE,aI]|true=>rw[aW,hw hc];rfl
 simp only[BR,JX,za,zy,zm,bE,y6,aI]
def xMX(l:List gG)(hl:si l):∃S,S6 (l.map dO)=some (S.map aA)/\aL (cM l) 1099511627776 S/\S.length<=2*l.length+1:=by
 obtain⟨e0,an⟩:=xNX l hl.1;obtain⟨W,V⟩:=xMS l;generalize hP:ik l=P at *;have ak:=hl.1;have Q:∀x,x∈P->0<=x/\x<=1099511627776:=λ x hx=>by rcases(V x).1 hx with rfl|⟨c,_,hv,h⟩;omega;have:=iF.1 hv;rcases h with rfl|rfl<;>omega
 obtain⟨m,hm,Y,J⟩:∃m,m<=P.length/\(∀k(h:k<P.length),k<m->P[k]<1099511627776)/\∀h:m<P.length,¬ P[m]<1099511627776:=by obtain⟨m,a,b,c,_⟩:=S3 1099511627776 P;exact⟨m,a,λ k h hk=>b k hk h,c⟩
 let G:Nat->List aF:=λ k=>(P.take k).foldl (λ S p=>cI S p (cM l p)) [];have hG:∀k(h:k<P.length),G (k+1)=cI (G k) P[k] (cM l P[k]):=λ k h=>by simp only[G];rw[List.take_add_one,ze h,List.foldl_append];rfl
 have ac:∀k,k<=P.length->(G k).length<=k:=λ k=>by induction k with|zero=>intro _;simp[G]|succ k ih=>intro h;rw[hG k Ω];have:=yG (G k) P[k] (cM l P[k]);have:=ih Ω;omega
 have aa:0<P.length:=List.length_pos_of_mem ((V 0).2 (.inl rfl));have q:P[0]=0:=by have h0:=(Q P[0] (zo aa)).1;obtain⟨j,hj,aj⟩:=zp.1 ((V 0).2 (.inl rfl));rcases Nat.eq_zero_or_pos j with rfl|ad;exact aj;have:=zB.1 W 0 j aa hj ad;omega
 have al:0<m:=by rcases Nat.eq_zero_or_pos m with rfl|h;exact absurd (by rw[q];omega) (J aa);exact h
 have nb:∀k(h:k<P.length) T',(∀h2:k+1<P.length,T'<=P[k+1])->T'<=1099511627776->∀t,P[k]<=t->t<T'->cM l t=cM l P[k]:=λ k h T' hT hF t h1 h2=>by(have no:∀x,x∈P->¬ (P[k]<x/\x<T'):=λ x hx⟨a,b⟩=>by obtain⟨j,hj,rfl⟩:=zp.1 hx;rcases Nat.lt_trichotomy j k with Z|rfl|Z;have:=zB.1 W j k hj h Z;omega;omega;rcases Nat.lt_or_eq_of_le Z with h3|h3;have:=zB.1 W (k+1) j Ω hj h3;have:=hT Ω;omega;have h4:j=k+1:=h3.symm;subst h4;have:=hT hj;omega);refine xzy (T:=P[k]) (T':=T') (λ c hc hv=>⟨no _ ((V _).2 (.inr ⟨c,hc,hv,.inl rfl⟩)),no _ ((V _).2 (.inr ⟨c,hc,hv,.inr rfl⟩))⟩) t h1 h2
 have inv:∀k(h:k<P.length),k<m->aL (cM l) P[k] (G k):=λ k=>by induction k with|zero=>intro h _;rw[q];exact .nil _|succ k ih=>intro h af;rw[hG k Ω];have h1:=zB.1 W k (k+1) Ω h Ω;have h2:=Y (k+1) h af;exact(ih Ω Ω).put (Q _ (zo Ω)).1 h1 (nb k Ω P[k+1] (λ _=>Int.le_refl _) Ω)
 have ag:aL (cM l) 1099511627776 (G m):=by obtain⟨k,rfl⟩:∃k,m=k+1:=⟨m - 1,by omega⟩;rw[hG k Ω];exact(inv k Ω Ω).put (Q _ (zo Ω)).1 (Y k Ω Ω) (nb k Ω _ (λ h2=>by have:=J h2;omega) (Int.le_refl _))
 refine⟨G m,?_,ag,by have:=ac m hm;omega⟩;have e1:aB (BQ (l.map dO) (P.map encN)) ((0:Nat),(0:Int),[])=some ((G m).length,(G m).map aA):=by refine r6 (λ k=>(((G k).length,(k:Int),(G k).map aA):Nat×Int×List AV)) m _ (λ k hk=>?_) ?_ m 0 Ω;(have O:k<P.length:=Ω);(have k1:(k:Int)<(P.length:Int):=Ω);have k2:=Y k O hk;have gk:(P.map encN).getD k .top=encN P[k]:=cH _ _ _ O;have e2:=xNY l hl P Ω (G k).length k O ((G k).map aA);have am:=ac k Ω;obtain⟨p,ae,ai,ah⟩:=CO (G k) P[k] (cM l P[k]) Ω;simp only[BQ,Fh,to,EV,EW,bR,O,k1,k2,gk,cN,sN,e2,ae,ai,ah,dN (n:=k) Ω,hG k O];by_cases ab:m<P.length;(have k1:(m:Int)<(P.length:Int):=Ω);have k2:=J ab;have gk:(P.map encN).getD m .top=encN P[m]:=cH _ _ _ ab;simp only[BQ,Fh,to,EV,EW,bR,ab,k1,k2,gk,cN,sN];(have k1:¬ (m:Int)<(P.length:Int):=Ω);simp only[BQ,Fh,to,EV,EW,bR,k1]
 unfold S6 Sd;simp only[FJ,Q8,e0,zh,zk,aW,e1,po,aI]
open Go.Sort
def chg(c:gG):List aF:=if pv c.1 then[(c.1.1,c.2),(c.1.2,-c.2)]else[]
def Wo{l:List gG}:∀s,s∈l.flatMap chg->0<=s.1/\s.1<=1099511627776:=λ s hs=>by obtain⟨c,hc,h⟩:=y5.1 hs;unfold chg at h;split at h;rename_i hv;have:=iF.1 hv;simp only[zC,List.not_mem_nil,or_false]at h;rcases h with rfl|rfl<;>dsimp only<;>omega;simp at h
def xJ9(c:gG):(chg c).length<=2:=by unfold chg;split<;>simp
def iN(S:List aF)(t:Int):Int:=(S.map λ s=>if s.1<=t then s.2 else 0).sum
def xwK(a b:List aF)(t:Int):iN (a++b) t=iN a t+iN b t:=by simp[iN]
def xJw{a b:List Int}(h:a.Perm b):a.sum=b.sum:=by induction h with|nil=>rfl|cons x _ ih=>simp[ih]|swap x y l=>simp;omega|trans _ _ h1 h2=>rw[h1,h2]
def xH8{a b:List aF}(h:a.Perm b)(t:Int):iN a t=iN b t:=xJw (h.map _)
def VG(t:Int):∀l:List gG,iN (l.flatMap chg) t=cM l t|[]=>rfl|c::l=>by rw[zR,xwK,VG t l,CF];congr 1;unfold chg;cases hv:pv c.1 with|false=>simp[iN,aG,hv]|true=>have:=iF.1 hv;simp only[if_true,iN,zV,zW,List.sum_cons,List.sum_nil,aG,hv,Bool.true_and,zf,zl];by_cases h1:c.1.1<=t<;>by_cases h2:c.1.2<=t;rw[if_pos h1,if_pos h2,if_neg Ω];omega;rw[if_pos h1,if_neg h2,if_pos Ω];omega;omega;rw[if_neg h1,if_neg h2,if_neg Ω];omega
def DC:∀L:List aF,(L.map λ _=>(0:Int)).sum=0|[]=>rfl|_::L=>by rw[zV,List.sum_cons,DC L];rfl
def dG(S:List aF)(i:Nat):Int:=((S.take i).map (·.2)).sum
def Ur(S:List aF)(i:Nat)(h:i<S.length):dG S (i+1)=dG S i+S[i].2:=by unfold dG;rw[List.take_add_one,ze h,zx,List.sum_append];simp
def xI9(S:List aF)(i:Nat)(hi:i<=S.length)(t:Int)(h1:∀k(h:k<S.length),k<i->S[k].1<=t)(h2:∀k(h:k<S.length),i<=k->t<S[k].1):dG S i=iN S t:=by
 have e:S=S.take i++S.drop i:=(List.take_append_drop i S).symm;conv=>rhs;rw[e]
 rw[xwK];have a1:iN (S.take i) t=dG S i:=by unfold iN dG;congr 1;refine List.map_congr_left λ s hs=>?_;obtain⟨k,hk,rfl⟩:=zp.1 hs;rw[zt]at hk;rw[List.getElem_take,if_pos (h1 k Ω Ω)]
 have a2:iN (S.drop i) t=0:=by(unfold iN;have:(S.drop i).map (λ s=>if s.1<=t then s.2 else 0)=(S.drop i).map λ _=>(0:Int):=by refine List.map_congr_left λ s hs=>?_;obtain⟨k,hk,rfl⟩:=zp.1 hs;rw[y3]at hk;have:=h2 (i+k) Ω Ω;rw[List.getElem_drop,if_neg Ω]);rw[this];exact DC _
 omega
def Vh{B:Int}(hB:0<=B)(S:List aF)(h:∀s,s∈S->-B<=s.2/\s.2<=B):∀i,i<=S.length->-(B*i)<=dG S i/\dG S i<=B*i|0,_=>by simp[dG]|i+1,hi=>by have ih:=Vh hB S h i Ω;have hs:=h S[i] (zo Ω);rw[Ur S i Ω,show B*((i+1:Nat):Int)=B*(i:Int)+B by rw[Int.natCast_add,Int.mul_add];simp];omega
def wS(e:aF):yQ:=(Fin.ofNat 1099511627777 e.1.toNat,e.2)
def Dr(x:yQ):aF:=((x.1.val:Int),x.2)
theorem xKH{e:aF}(h1:0<=e.1)(h2:e.1<=1099511627776):Dr (wS e)=e:=by grind [Dr,wS]
def xK7(E:List aF)(h:∀e,e∈E->0<=e.1/\e.1<=1099511627776):(E.map aA).all isS=true/\∃S:List aF,sI (E.map aA)=S.map aA/\S.Perm E/\S.Pairwise λ x y=>x.1<=y.1:=by
 refine⟨?_,(pdqL kj (E.map wS)).map Dr,?_,?_,?_⟩
 . rw[zI];intro x hx;obtain⟨e,he,rfl⟩:=zK.1 hx;have:=h e he;show (decide _&&decide _)=true;rw[decide_eq_true this.1,decide_eq_true this.2];rfl
 . unfold sI;have e1:(E.map aA).map oU=E.map wS:=by rw[List.map_map];rfl
   rw[e1,List.map_map];rfl
 . have hp:=((CA kj wQ (E.map wS)).1).map Dr;have e2:(E.map wS).map Dr=E:=by
    rw[List.map_map]
    conv=>rhs;rw[<-List.map_id E]
    refine List.map_congr_left λ e he=>?_
    exact xKH (h e he).1 (h e he).2
   rwa [e2]at hp
 . rw[List.pairwise_map];refine(Q5 kj wQ (E.map wS)).imp λ{x y} q=>?_
   show ((x.1.val:Nat):Int)<=((y.1.val:Nat):Int);unfold kj at q;omega
def xKD(n o:Nat):I1 n o=x9 n o 0:=rfl
def xyo(l:List gG)(hl:l.length<=1048576)(ht:∀c,c∈l->-1099511627776<=c.2/\c.2<=1099511627776):aB (BY (l.map dO) ((l.length:Nat):Int)) ((0:Nat),(0:Int),[])=some ((l.flatMap (λ(f:gG)=>chg f)).length,(l.flatMap (λ(f:gG)=>chg f)).map aA):=by
 refine vE l (λ(f:gG)=>chg f) aA 2 (λ f hf=>?_) (λ n h D hD=>?_) (λ D=>?_);cases q:(pv (f).1)<;>simp[chg,q];have h1:(n:Int)<(l.length:Int):=Ω
 have m1:(D.length+2)*16<=140737488355328:=Ω
 have m2:D.length+2<=4611686018427387904:=Ω
 have gf:(l.map dO).getD n .top=dO l[n]:=cH _ _ _ h;have hm:=ht l[n] (zo h);have hw:IntKind.i64.wrap (0 - l[n].2)=-l[n].2:=by rw[gx Ω Ω];omega
 simp only[BY,J3,bR,h,h1,gf,L3,L4,L5,lC,sC,Nh,Ng,CB,hw,m1,m2,dN (n:=n) Ω];cases q:(pv (l[n]).1)<;>simp[aA,aW,bE,encR,chg,q,aI];simp only[BY,J3,za,zy,zm,bE,aI]
def S1(S:List aF)(hS:S.length<=1048576)(hb:∀s,s∈S->-1099511627776<=s.2/\s.2<=1099511627776)(on:Nat)(at':Int)(ox:List AV):∀(d i:Nat),i+d=S.length->∃j:Nat,i<=j/\j<=S.length/\(∀k(h:k<S.length),i<=k->k<j->S[k].1=at')/\(∀h:j<S.length,S[j].1≠at')/\
  aB (x9 S.length on at') (dG S i,(i:Int),S.map aA,ox)=some (dG S j,(j:Int),S.map aA,ox)
 |0,i,h=>by
  refine⟨i,zd _,by omega,λ k _ h1 h2=>by omega,λ h=>by omega,cQ ?_⟩
  have i1:¬ (i:Int)<(S.length:Int):=by omega
  simp only[x9,Fk,Fr,i1,zm,bE,aI]
 |d+1,i,h=>by
  have hi:i<S.length:=by omega
  have i1:(i:Int)<(S.length:Int):=by omega
  have gf:(S.map aA).getD i .top=aA S[i]:=cH _ _ _ hi;by_cases he:S[i].1=at'
  . obtain⟨j,h1,h2,h3,h4,h5⟩:=S1 S hS hb on at' ox d (i+1) (by omega)
    refine⟨j,by omega,h2,λ k hk a b=>?_,h4,?_⟩
    . rcases Nat.lt_or_eq_of_le a with a|a
      . exact h3 k hk a b
      . subst a;exact he
    . have hp:=Vh (B:=1099511627776) (by omega) S hb i (by omega)
      have hs:=hb S[i] (zo hi);rw[eH (s':=(dG S (i+1),((i+1:Nat):Int),S.map aA,ox)) ?_,h5];simp only[x9,Fk,Fr,bR,hi,i1,gf,iq,ir,lP,sP,iB,iC,he,dN (n:=i) (by omega),Ur S i hi]
      rw[gx (by omega) (by omega)]
  . have he':(S[i].1==at')=false:=by simp[he]
    refine⟨i,zd _,by omega,λ k _ h1 h2=>by omega,λ _=>he,cQ ?_⟩
    simp only[x9,Fk,Fr,bR,hi,i1,gf,iq,ir,lP,sP,iB,iC,he']
def YT(l:List gG)(hl:si l):∃S,e7 (l.map dO)=some (S.map aA)/\aL (cM l) 1099511627776 S/\S.length<=2*l.length+1:=by
 have aw:=hl.1;have e0:=xyo l Ω hl.2;have hE:=vJ (g:=chg) (c:=2) l λ c _=>xJ9 c;obtain⟨aj,S,hS,hp,ao⟩:=xK7 (l.flatMap chg) Wo;have ah:S.length=(l.flatMap chg).length:=hp.length_eq;have V:∀s,s∈S->0<=s.1/\s.1<=1099511627776:=λ s hs=>Wo s (hp.mem_iff.1 hs);have hb:∀s,s∈S->-1099511627776<=s.2/\s.2<=1099511627776:=λ s hs=>by obtain⟨c,hc,h⟩:=y5.1 (hp.mem_iff.1 hs);have:=hl.2 c hc;unfold chg at h;split at h;simp only[zC,List.not_mem_nil,or_false]at h;rcases h with rfl|rfl<;>dsimp only<;>omega;simp at h
 have hN:∀t,iN S t=cM l t:=λ t=>by rw[xH8 hp,VG]
 have O:∀a b(ha:a<S.length)(hb:b<S.length),a<=b->S[a].1<=S[b].1:=λ a b ha hb ap=>by rcases Nat.lt_or_eq_of_le ap with h|h;exact zB.1 ao a b ha hb h;subst h;exact Int.le_refl _
 let T:Nat->Int:=λ i=>if h:i<S.length then S[i].1 else 1099511627776;have step:∀(out:List aF)(i j:Nat)(at':Int),0<=at'->i<=j->j<=S.length->aL (cM l) at' out->at'<1099511627776->(∀k(h:k<S.length),k<i->S[k].1<=at')->(∀k(h:k<S.length),i<=k->at'<=S[k].1)->(∀k(h:k<S.length),i<=k->k<j->S[k].1=at')->(∀h:j<S.length,S[j].1≠at')->
   dG S j=cM l at'/\aL (cM l) (T j) (cI out at' (dG S j))/\at'<T j/\∀k(h:k<S.length),k<j->S[k].1<=at':=λ out i j at' h0 ai hj Q hF ab ak am hne=>by
  have a1:∀k(h:k<S.length),k<j->S[k].1<=at':=λ k h hk=>by
   rcases zJ k i with h1|h1
   . exact ab k h h1
   . rw[am k h h1 hk];exact Int.le_refl _
  have a2:∀k(h:k<S.length),j<=k->at'<S[k].1:=λ k h hk=>by
   have J:j<S.length:=Ω
   have b1:=ak j J ai;have b2:=hne J;have b3:=O j k J h hk;omega
  have hT:at'<T j:=by
   simp only[T];split
   . rename_i h;exact a2 j h (zd _)
   . exact hF
  have ac:∀t,at'<=t->t<T j->dG S j=cM l t:=λ t h1 h2=>by
   rw[<-hN];refine xI9 S j hj t (λ k h hk=>by have:=a1 k h hk;omega) λ k h hk=>?_
   have J:j<S.length:=Ω
   have b3:=O j k J h hk;simp only[T,dif_pos J]at h2;omega
  have e:=ac at' (Int.le_refl _) hT;refine⟨e,?_,hT,a1⟩;rw[e];exact Q.put h0 hT λ t h1 h2=>by rw[<-ac t h1 h2,e]
 have ad:∀(out:List aF)(f n:Int),out.length<=2*l.length+1->∃p,kI out.length f n (out.map aA)=some p/\br p.1 p.2.1.1 p.2.2.1=(cI out f n).length/\br p.1 p.2.1.2 p.2.2.2=(cI out f n).map aA:=λ out f n h=>CO out f n Ω;obtain⟨j0,_,ag,h3,h4,e1⟩:=S1 S Ω hb 0 0 ([]:List AV) S.length 0 Ω;obtain⟨_,an,_,aq⟩:=step [] 0 j0 0 (Int.le_refl _) (zQ _) ag (.nil _) Ω (λ k _ h=>by omega) (λ k h _=>(V _ (zo h)).1) h3 h4;obtain⟨p0,ae,Z,W⟩:=ad [] 0 (dG S j0) Ψ;have o0:cI [] 0 (dG S j0)=[(0,dG S j0)]:=rfl;obtain⟨r,hr,out,rfl,Q,af⟩:=K4 (step:=BZ S.length)
  (λ s=>∃(out:List aF)(i:Nat),s=(out.length,dG S i,(i:Int),S.map aA,out.map aA)/\i<=S.length/\aL (cM l) (T i) out/\out.length<=i+1/\∀k(h:k<S.length)(hi:i<S.length),k<i->S[k].1<=S[i].1) (λ s=>(S.length - s.2.2.1.toNat)) (λ r=>∃out:List aF,r=(out.length,out.map aA)/\aL (cM l) 1099511627776 out/\out.length<=2*l.length+1)
  (by
   rintro _ ⟨out,i,rfl,hi,Y,ar,ab⟩;by_cases q:i<S.length
   . have i1:(i:Int)<(S.length:Int):=Ω
     have gf:(S.map aA).getD i .top=aA S[i]:=cH _ _ _ q;have aa:T i=S[i].1:=dif_pos q;by_cases hF:S[i].1<1099511627776
     . left;obtain⟨j,a1,a2,a3,a4,a5⟩:=S1 S Ω hb out.length S[i].1 (out.map aA) (S.length - i) i Ω
       rw[aa]at Y;obtain⟨b1,b2,b3,b4⟩:=step out i j S[i].1 (V _ (zo q)).1 a1 a2 Y hF (λ k h hk=>O k i h q Ω) (λ k h hk=>O i k q h hk) a3 a4
       have ai:i<j:=by
        rcases Nat.lt_or_eq_of_le a1 with h|h
        . exact h
        . subst h;exact absurd rfl (a4 q)
       obtain⟨p,ae,Z,W⟩:=ad out S[i].1 (dG S j) Ω
       have au:=yG out S[i].1 (dG S j);refine⟨((cI out S[i].1 (dG S j)).length,dG S j,(j:Int),S.map aA,(cI out S[i].1 (dG S j)).map aA),?_,⟨_,j,rfl,a2,b2,by omega,λ k h hj hk=>O k j h hj Ω⟩,by dsimp only;rw[zN,zN];omega⟩
       simp only[BZ,Fj,tz,Fq,vd,Fb,Fd,B6,bR,q,i1,gf,iq,ir,lP,sP,iB,iC,hF,a5,ae,Z,W]
     . right;have al:S[i].1=1099511627776:=by have:=(V _ (zo q)).2;omega
       refine⟨(out.length,out.map aA),?_,out,rfl,by rw[<-al,<-aa];exact Y,by omega⟩
       simp only[BZ,Fj,tz,Fq,vd,Fb,Fd,B6,bR,q,i1,gf,iq,ir,lP,sP,iB,iC,hF]
   . right;have i1:¬ (i:Int)<(S.length:Int):=Ω
     have aa:T i=1099511627776:=dif_neg q;refine⟨(out.length,out.map aA),?_,out,rfl,by rw[<-aa];exact Y,by omega⟩
     simp only [BZ,Fj,tz,Fq,vd,Fb,Fd,B6,bR,i1])
  (([(0,dG S j0)]:List aF).length,dG S j0,(j0:Int),S.map aA,([(0,dG S j0)]:List aF).map aA) ⟨[(0,dG S j0)],j0,rfl,ag,an,by simp,λ k h hj hk=>O k j0 h hj Ω⟩
 refine⟨out,?_,Q,af⟩;have d1:(l.flatMap chg).length<4611686018427387904:=Ω
 have d2:((l.flatMap chg).length).beq (l.flatMap chg).length:=Nat.beq_refl _;have e1':aB (I1 (l.flatMap chg).length 0) ((0:Int),(0:Int),S.map aA,[])=some (dG S j0,(j0:Int),S.map aA,[]):=by rw[xKD,<-ah];exact e1
 rw[ah]at hr;unfold e7 Sl;have hp1':kI 0 0 (dG S j0) []=some p0:=ae;rw[o0]at Z W;simp only[FM,R3,yq,R4,Co,Rx,ve,za,e0,zh,zk,aW,aj,hS,d1,d2,e1',hp1',Z,W,hr,zn,zS,po,aI]
end Go.Sim.M
namespace Go.Sim.M
open Go.RowKit Go.Sim.Srt
variable {n:Nat}
def Yg(h:n+1<=4611686018427387904):IntKind.i64.wrap (((n+1:Nat):Int) - 1)=(n:Int):=by rw[gx Ω Ω];omega
def TQ(p:aF):List.take 1 (aA p).cells=[.int .i64 p.1]:=rfl
def TD(p:aF):List.drop 2 (aA p).cells=[]:=rfl
def p7(a b:Int):AV.agg [.int .i64 a,.int .i64 b]=aA (a,b):=rfl
def Vs{α:Type}(l:List α)(x d:α):(l++[x]).getD l.length d=x:=by simp
def xKW{α:Type}(l:List α)(x y:α):(l++[x]).set l.length y=l++[y]:=by simp
def fR(st:List aF):List Int:=st.flatMap λ s=>List.replicate s.2.toNat s.1
def yu(st:List aF)(f m:Int):fR (st++[(f,m)])=fR st++List.replicate m.toNat f:=by simp[fR]
def kL(st:List aF):Prop:=∀s,s∈st->1<=s.2
def kL.len{st:List aF}(h:kL st):st.length<=(fR st).length:=by unfold fR;induction st with|nil=>simp|cons s st ih=>have h1:=h s Ψ;have:=ih λ s hs=>h s (by simp[hs]);rw[zR,z8,zF,List.length_replicate];omega
def Tg(J n:Int)(v:Nat)(k t2 f:Int)(q:List aF)(ti:Nat)(O:ti<q.length)(hf:q[ti].1=f)(K:Nat)(hK:K<=1048576):∀(d j:Nat)(ox:List aF)(vo:Nat),j+d=K->ox.length+d<=1099511627776->
  aB (xK J n v ti k (K:Int)) ((j:Int),t2,q.length,v,ox.length,vo,v,q.map aA,vo,ox.map aA)=some (t2,v,q.length,vo+d,(ox++List.replicate d (f,J)).length,q.map aA,v,(ox++List.replicate d (f,J)).map aA,vo+d)
 |0,j,ox,vo,h,hb=>by
  obtain rfl:j=K:=by omega
  refine cQ ?_;simp only[xK,Js,zy,zm,bE,List.replicate_zero,zD,Nat.add_zero,aI]
 |d+1,j,ox,vo,h,hb=>by
  have i1:(j:Int)<(K:Int):=by omega
  have gf:(q.map aA).getD ti .top=aA q[ti]:=cH _ _ _ O;have m1:(ox.length+1)*16<=140737488355328:=by omega
  have m2:ox.length+1<=4611686018427387904:=by omega
  have tk:List.take q.length (q.map aA)=q.map aA:=zi (by simp)
  rw[eH (s':=(((j+1:Nat):Int),t2,q.length,v,(ox++[(f,J)]).length,vo+1,v,q.map aA,vo+1,(ox++[(f,J)]).map aA)) ?_,Tg J n v k t2 f q ti O hf K hK d (j+1) (ox++[(f,J)]) (vo+1) (by omega) (by rw[z8,zj];omega)]
  . rw[zw,show [(f,J)]++List.replicate d (f,J)=List.replicate (d+1) (f,J) from rfl,show vo+1+d=vo+(d+1) by omega]
  . simp only[xK,Js,bR,i1,O,gf,iq,ir,lP,sP,iB,iC,hf,m1,m2,tk,dN (n:=j) (by omega)]
    simp[aA]
def V8{α:Type}(n:Nat)(a:α):(List.replicate n a).reverse=List.replicate n a:=List.reverse_replicate ..
def Tf(q:Int)(n:Nat):∀(c:Nat)(J:List aF)(h:Nat)(ox:List aF)(v vo:Nat),J.length<=c->kL J->(fR J).length=h->n<=h->h<=1048576->ox.length+h<=1099511627776->
  ∃(O Q:List aF)(V:Nat),aB (uC q (n:Int)) ((h:Int),J.length,v,ox.length,vo,v,J.map aA,vo,ox.map aA)=some ((n:Int),v,O.length,V,Q.length,O.map aA,v,Q.map aA,V)/\
   kL O/\fR O=(fR J).take n/\Q=ox++(((fR J).drop n).reverse.map λ f=>(f,q))
 |c,J,h,ox,v,vo,hc,hs,hh,hn,hb,ho=>by
  by_cases ac:n=h
  . subst ac;refine⟨J,ox,vo,cQ ?_,hs,?_,?_⟩
    . have i1:¬ ((n:Int)>(n:Int)):=by omega
      simp only[uC,BG,i1,zm,bE,aI]
    . rw[zi (by omega)]
    . rw[zq (by omega)];simp
  . have ad:n<h:=by omega
    rcases Kv J with rfl|⟨st,⟨f,m⟩,rfl⟩
    . simp[fR]at hh;omega
    . have hm:=hs (f,m) (by simp)
      dsimp only at hm;have Y:kL st:=λ s h=>hs s (by simp[h])
      have aa:(fR st).length+m.toNat=h:=by rw[<-hh,yu,z8,List.length_replicate]
      obtain⟨M,rfl⟩:∃M:Nat,m=(M:Int):=⟨m.toNat,by omega⟩
      rw[zN]at aa;have sl:=hs.len;rw[z8,zj]at hc sl;rw[hh]at sl;have L1:(st++[(f,(M:Int))]).length=st.length+1:=by simp
      have i1:(h:Int)>(n:Int):=by omega
      have w1:IntKind.i64.wrap (((st.length+1:Nat):Int) - 1)=(st.length:Int):=Yg (by omega)
      have w2:IntKind.i64.wrap ((h:Int) - (n:Int))=((h - n:Nat):Int):=by rw[gx (by omega) (by omega)];omega
      have i2:(st.length:Int)<((st.length+1:Nat):Int):=by omega
      have i3:st.length<(st++[(f,(M:Int))]).length:=by omega
      have g0:(st++[(f,(M:Int))])[st.length]'i3=(f,(M:Int)):=by simp
      have gf:((st++[(f,(M:Int))]).map aA).getD st.length .top=aA (f,(M:Int)):=by rw[cH _ _ _ i3,g0]
      have tk:List.take (st.length+1) ((st++[(f,(M:Int))]).map aA)=(st++[(f,(M:Int))]).map aA:=zi (by simp)
      have W:∀x:AV,((st++[(f,(M:Int))]).map aA).set st.length x=st.map aA++[x]:=λ x=>by
       rw[zx];have:=xKW (st.map aA) (aA (f,(M:Int))) x;rwa [za]at this
      have gl:∀x:AV,(st.map aA++[x]).getD st.length .top=x:=λ x=>by have:=Vs (st.map aA) x .top;rwa [za]at this
      have tl:∀x:AV,List.take st.length (st.map aA++[x])=st.map aA:=λ x=>by
       have:=List.take_left' (l₁:=st.map aA) (l₂:=[x]) (i:=st.length) (by simp)
       exact this
      by_cases hk:M<=h - n
      ·
       have i4:¬ ((h - n:Nat):Int)<(M:Int):=by omega
       have e1:=Tg q (n:Int) v (M:Int) (h:Int) f (st++[(f,(M:Int))]) st.length i3 (by rw[g0]) M (by omega) M 0 ox vo (by omega) (by omega)
       rw[L1]at e1;obtain⟨O,Q,V,e2,h1,h2,h3⟩:=Tf q n (c - 1) st (h - M) (ox++List.replicate M (f,q)) v (vo+M) (by omega) Y (by omega) (by omega) (by omega) (by rw[z8,List.length_replicate];omega)
       refine⟨O,Q,V,(eH (s':=(((h - M:Nat):Int),st.length,v,(ox++List.replicate M (f,q)).length,vo+M,v,st.map aA,vo+M,(ox++List.replicate M (f,q)).map aA)) ?_).trans e2,h1,?_,?_⟩
       . have w3:IntKind.i64.wrap ((h:Int) - (M:Int))=((h - M:Nat):Int):=by rw[gx (by omega) (by omega)];omega
         have w4:IntKind.i64.wrap ((M:Int) - (M:Int))=0:=by rw[Int.sub_self];rfl
         have i5:(st.length:Int)<=((st.length+1:Nat):Int):=by omega
         have e1:aB (xK q (n:Int) v st.length (M:Int) (M:Int)) ((0:Int),(h:Int),st.length+1,v,ox.length,vo,v,(st++[(f,(M:Int))]).map aA,vo,ox.map aA)=_:=e1;simp only[uC,BG,xZ,uJ,Bm,BN,jR,ya,It,oC,bR,L1,i1,i2,w1,w2,w3,w4,i4,i5,gf,iq,ir,lP,sP,iB,iC,tk,e1,if_false,W,gl,tl,z8,zj,Nat.lt_succ_self,TQ,TD,p7,zD,List.singleton_append]
         try simp[aW,tl,gl,aI]
       . rw[h2,yu,List.take_append_of_le_length (by omega)]
       . rw[h3,yu,zN,List.drop_append_of_le_length (by omega),List.reverse_append,V8,zx,List.map_replicate,zw]
      ·
       have i4:((h - n:Nat):Int)<(M:Int):=by omega
       have e1:=Tg q (n:Int) v ((h - n:Nat):Int) (h:Int) f (st++[(f,(M:Int))]) st.length i3 (by rw[g0]) (h - n) (by omega) (h - n) 0 ox vo (by omega) (by omega)
       rw[L1]at e1;refine⟨st++[(f,((M - (h - n):Nat):Int))],ox++List.replicate (h - n) (f,q),vo+(h - n),(eH (s':=((n:Int),st.length+1,v,(ox++List.replicate (h - n) (f,q)).length,vo+(h - n),v,(st++[(f,((M - (h - n):Nat):Int))]).map aA,vo+(h - n),(ox++List.replicate (h - n) (f,q)).map aA)) ?_).trans (cQ ?_),?_,?_,?_⟩
       . have w3:IntKind.i64.wrap ((h:Int) - ((h - n:Nat):Int))=(n:Int):=by rw[gx (by omega) (by omega)];omega
         have w4:IntKind.i64.wrap ((M:Int) - ((h - n:Nat):Int))=((M - (h - n):Nat):Int):=by rw[gx (by omega) (by omega)];omega
         have i6:(((M - (h - n):Nat):Int)==0)=false:=by simp;omega
         have e1:aB (xK q (n:Int) v st.length ((h - n:Nat):Int) ((h - n:Nat):Int)) ((0:Int),(h:Int),st.length+1,v,ox.length,vo,v,(st++[(f,(M:Int))]).map aA,vo,ox.map aA)=_:=e1;have Z:∀x:AV,List.take (st.length+1) (st.map aA++[x])=st.map aA++[x]:=λ x=>zi (by simp)
         simp only[uC,BG,xZ,uJ,Bm,BN,jR,ya,It,oC,bR,L1,i1,i2,w1,w2,w3,w4,i4,gf,iq,ir,lP,sP,iB,iC,tk,e1,if_true,W,gl,tl,Z,z8,zj,Nat.lt_succ_self,TQ,TD,p7,zD,List.singleton_append]
         try simp[aW,bE,tl,Z,gl,i6,aI]
       . have i5:¬ ((n:Int)>(n:Int)):=by omega
         simp only[uC,BG,i5,zm,bE,z8,zj,aI]
       . intro s ab;rcases zG.1 ab with h1|h1
         . exact Y s h1
         . rw[zv]at h1;subst h1;dsimp only;omega
       . rw[yu,yu,zN,zN,List.take_append];have:(fR st).take n=fR st:=zi (by omega)
         rw[this,List.take_replicate,show min (n - (fR st).length) M=M - (h - n) by omega]
       . rw[yu,zN,List.drop_append,zq (show (fR st).length<=n by omega),zU,List.drop_replicate,V8,List.map_replicate,show M - (n - (fR st).length)=h - n by omega]
def Wf(J:Int)(n h:Nat)(q ox:List aF)(hs:kL q)(hh:(fR q).length=h)(hn:n<=1048576)(hb:h<=1048576)(ho:ox.length+1048576<=1099511627776):∃O:List aF,set2 J (n:Int) (h:Int) q.length ox.length (q.map aA) (ox.map aA)=some ((n:Int),O.length,(ox++(((fR q).drop n).reverse.map λ f=>(f,J))).length,O.map aA,(ox++(((fR q).drop n).reverse.map λ f=>(f,J))).map aA)/\kL O/\fR O=(fR q).take n++List.replicate (n - h) J:=by
 have sl:=hs.len;rw[hh]at sl;have tk:List.take q.length (q.map aA)=q.map aA:=zi Ψ;by_cases aa:h<n;have i1:(n:Int)>(h:Int):=Ω
 have w1:IntKind.i64.wrap ((n:Int) - (h:Int))=((n - h:Nat):Int):=by rw[gx Ω Ω];omega
 have Z:kL (q++[(J,((n - h:Nat):Int))]):=λ s h1=>by rcases zG.1 h1 with h1|h1;exact hs s h1;rw[zv]at h1;subst h1;dsimp only;omega
 have hf:fR (q++[(J,((n - h:Nat):Int))])=fR q++List.replicate (n - h) J:=by rw[yu,zN]
 have Y:(fR (q++[(J,((n - h:Nat):Int))])).length=n:=by rw[hf,z8,List.length_replicate];omega
 obtain⟨O,Q,W,e,h1,h2,h3⟩:=Tf J n (q.length+1) (q++[(J,((n - h:Nat):Int))]) n ox 1 0 Ψ Z Y (zd _) hn Ω;refine⟨O,?_,h1,?_⟩;have d1:(fR q).drop n=[]:=zq Ω;have d2:(fR (q++[(J,((n - h:Nat):Int))])).drop n=[]:=zq Ω;rw[d2]at h3;subst h3;rw[d1];have m1:(q.length+1)*16<=140737488355328:=Ω
 have m2:q.length+1<=4611686018427387904:=Ω
 have V:List.take (q.length+1) (q.map aA++[AV.agg [.int .i64 J,.int .i64 ((n - h:Nat):Int)]])=(q++[(J,((n - h:Nat):Int))]).map aA:=by rw[zi Ψ,zx];rfl
 rw[z8,zj]at e;unfold set2 Cs Fs;simp only[qW,qX,JK,JL,i1,w1,zn,aW,za,beq_self_eq_true,m1,m2,Bool.and_self,V,e,zk,zh,Option.bind_some,Nat.beq_refl,aI];rw[h2,hf,zi (by rw[<-hf];omega),zi Ω];obtain⟨O,Q,W,e,h1,h2,h3⟩:=Tf J n q.length q h ox 0 0 (zd _) hs hh Ω hb Ω;refine⟨O,?_,h1,by rw[h2,show n - h=0 by omega];simp⟩;have i1:¬ (n:Int)>(h:Int):=Ω
 subst h3;unfold set2 Cs Fs;simp only[qW,qX,JK,JL,i1,zm,bE,tk,e,zk,zh,aW,Option.bind_some,Nat.beq_refl,Bool.and_self,aI]
def fW(s:List Int×List aF)(q:Int×Nat):List Int×List aF:=(s.1.take q.2++List.replicate (q.2 - s.1.length) q.1,s.2++((s.1.drop q.2).reverse.map λ f=>(f,q.1)))
def xwl{α β:Type}(A B:α->List β):∀l:List α,(l.flatMap λ k=>A k++B k).Perm (l.flatMap A++l.flatMap B)|[]=>List.Perm.refl _|a::l=>by rw[zR,zR,zR];have ih:=xwl A B l;refine(ih.append_left (A a++B a)).trans ?_;rw[zw,zw];refine List.Perm.append_left _ ?_;rw[<-zw,<-zw];exact List.Perm.append_right _ List.perm_append_comm
def xy9{β:Type}(g:Int->β):∀(F:List Int)(H n:Nat),F.length<=H->(List.range H).flatMap (λ k=>if n<=k then(F[k]?).toList.map g else[])=(F.drop n).map g|[],H,n,_=>by rw[List.drop_nil,zW,List.flatMap_eq_nil_iff];intro k _;split<;>simp|x::F,0,n,h=>by simp at h|x::F,H+1,n,h=>by rw[List.range_succ_eq_map,zR,List.flatMap_map];have ih:=xy9 g F H (n - 1) (by simpa using h);(have e:(List.range H).flatMap (λ a=>if n<=a.succ then(((x::F)[a.succ]?).toList).map g else[])=(F.drop (n - 1)).map g:=by(rw[<-ih];congr 1;funext a;have:(n<=a.succ)=(n - 1<=a):=by rw[eq_iff_iff];omega);simp only[this,zZ,Nat.succ_eq_add_one]);rw[e];cases n with|zero=>simp|succ n=>simp
structure ub (N:Int->Nat) (H:Nat) (at':Int) (F:List Int) (out:List aF) (A:Nat->List aF):Prop where
 perm:out.Perm ((List.range H).flatMap A)
 span:∀k,bA (A k)
 low:∀k(h:k<F.length),F[k]<=at'/\0<=F[k]/\∀p,p∈A k->p.2<F[k]
 high:∀k,F.length<=k->∀p,p∈A k->p.2<=at'
 cov:∀k t,t<=at'->((inL (A k) t\/∃h:k<F.length,F[k]<=t)↔k<N t)
 len:F.length=N at'
 top:F.length<=H
variable {H:Nat}{N:Int->Nat}
def ub.start(h0:∀t,t<0->N t=0):ub N H (-1) [] [] λ _=>[] where
 perm:=by
  have:(List.range H).flatMap (λ _=>([]:List aF))=[]:=by simp
  rw[this]
 span _:=Cq
 low k h:=by simp at h
 high k _ p hp:=by simp at hp
 cov k t ht:=by rw[h0 t Ω,pQ];simp
 len:=by rw[h0 _ Ω];rfl
 top:=zQ _
variable {a b:Int}
def ub.set{F:List Int}{out:List aF}{A:Nat->List aF}(h:ub N H a F out A)(ad:a<b)(h0:0<=b)(hb:b<=1099511627776)(hc:∀t,a<=t->t<b->N t=N a)(hH:N b<=H):∃A',ub N H b (fW (F,out) (b,N b)).1 (fW (F,out) (b,N b)).2 A':=by
 have hl:=h.len;refine⟨λ k=>A k++(if N b<=k then(F[k]?).toList.map (λ f=>(f,b))else[]),?_,?_,?_,?_,?_,?_,?_⟩;refine(List.Perm.append h.perm ?_).trans (xwl A _ _).symm;rw[xy9 (λ f=>(f,b)) F H (N b) h.top];exact(List.reverse_perm _).map _;intro k;by_cases hk:N b<=k;rw[if_pos hk];by_cases J:k<F.length;obtain⟨l1,l2,l3⟩:=h.low k J;rw[ze J];refine⟨λ p hp=>?_,List.pairwise_append.2 ⟨(h.span k).2,by simp,λ p hp q hq=>?_⟩⟩;rcases zG.1 hp with hp|hp;exact(h.span k).1 p hp;simp at hp;subst hp;exact iF.2 ⟨l2,by dsimp only;omega,hb⟩;simp at hq;subst hq;exact l3 p hp;rw[zz Ω];simpa using h.span k;rw[if_neg hk,zD];exact h.span k;intro k hk;simp only[fW]at hk|-;rw[z8,zt,List.length_replicate]at hk;have O:¬ N b<=k:=Ω
 simp only[O,if_false,zD];by_cases J:k<F.length;rw[List.getElem_append_left (by rw[zt];omega),List.getElem_take];obtain⟨l1,l2,l3⟩:=h.low k J;exact⟨by omega,l2,l3⟩;rw[List.getElem_append_right (by rw[zt];omega),List.getElem_replicate];exact⟨Int.le_refl _,h0,λ p hp=>by have:=h.high k Ω p hp;omega⟩;intro k hk p hp;simp only[fW]at hk;rw[z8,zt,List.length_replicate]at hk;have O:N b<=k:=Ω
 simp only[O,if_true]at hp;by_cases J:k<F.length;rw[ze J]at hp;rcases zG.1 hp with hp|hp;obtain⟨l1,l2,l3⟩:=h.low k J;have:=l3 p hp;omega;simp at hp;subst hp;exact Int.le_refl _;rw[zz Ω]at hp;simp at hp;have:=h.high k Ω p hp;omega;intro k t ht;have Q:(fW (F,out) (b,N b)).1=F.take (N b)++List.replicate (N b - F.length) b:=rfl;have key:(∃hh:k<(fW (F,out) (b,N b)).1.length,(fW (F,out) (b,N b)).1[k]<=t)↔(k<N b/\((∃hh:k<F.length,F[k]<=t)\/(F.length<=k/\b<=t))):=by constructor;rintro⟨hh,V⟩;have hh':=hh;rw[Q,z8,zt,List.length_replicate]at hh';refine⟨by omega,?_⟩;by_cases J:k<F.length;(refine .inl ⟨J,?_⟩;have e:(fW (F,out) (b,N b)).1[k]=F[k]:=by simp only[Q];rw[List.getElem_append_left (by rw[zt];omega),List.getElem_take]);rw[<-e];exact V;refine .inr ⟨by omega,?_⟩;(have e:(fW (F,out) (b,N b)).1[k]=b:=by simp only[Q];rw[List.getElem_append_right (by rw[zt];omega),List.getElem_replicate]);rw[<-e];exact V;(rintro⟨h1,h2⟩;have hh:k<(fW (F,out) (b,N b)).1.length:=by rw[Q,z8,zt,List.length_replicate];omega);refine⟨hh,?_⟩;rcases h2 with⟨J,V⟩|⟨J,V⟩;(have e:(fW (F,out) (b,N b)).1[k]=F[k]:=by simp only[Q];rw[List.getElem_append_left (by rw[zt];omega),List.getElem_take]);rw[e];exact V;(have e:(fW (F,out) (b,N b)).1[k]=b:=by simp only[Q];rw[List.getElem_append_right (by rw[zt];omega),List.getElem_replicate]);rw[e];exact V
 rw[key];have Z:inL (A k++(if N b<=k then(F[k]?).toList.map (λ f=>(f,b))else[])) t=true↔inL (A k) t\/(N b<=k/\(∃hh:k<F.length,F[k]<=t)/\t<b):=by rw[FR,Bool.or_eq_true];refine or_congr Iff.rfl ?_;by_cases O:N b<=k;rw[if_pos O];by_cases J:k<F.length;(obtain⟨l1,l2,l3⟩:=h.low k J;rw[ze J];have e:inL ((some F[k]).toList.map λ f=>(f,b)) t=aG (F[k],b) t:=by simp[inL]);rw[e,jB,iF];dsimp only;constructor;rintro⟨_,h2,h3⟩;exact⟨O,⟨J,h2⟩,h3⟩;rintro⟨_,⟨_,h2⟩,h3⟩;exact⟨⟨l2,by omega,hb⟩,h2,h3⟩;rw[zz Ω];simp only[Option.toList_none,zW,pQ,zT,false_iff];rintro⟨_,⟨hh,_⟩,_⟩;omega;rw[if_neg O,pQ];simp only[zT,false_iff];rintro⟨hh,_⟩;omega
 rw[Z];by_cases ac:t<=a;have W:=h.cov k t ac;rw[<-W];constructor;rintro((h1|⟨_,h2,_⟩)|⟨_,h2|⟨_,h3⟩⟩);exact .inl h1;exact .inr h2;exact .inr h2;omega;rintro(h1|h2);exact .inl (.inl h1);by_cases O:N b<=k;exact .inl (.inr ⟨O,h2,by omega⟩);exact .inr ⟨by omega,.inl h2⟩;have Y:inL (A k) t->False:=λ hi=>by obtain⟨p,hp,_,p1,p2⟩:=pi.1 hi;by_cases J:k<F.length;obtain⟨l1,l2,l3⟩:=h.low k J;have:=l3 p hp;omega;have:=h.high k Ω p hp;omega
 have ab:(∃hh:k<F.length,F[k]<=t)↔k<F.length:=⟨λ⟨hh,_⟩=>hh,λ hh=>⟨hh,by have:=(h.low k hh).1;omega⟩⟩;rw[ab];by_cases aa:t<b;rw[hc t Ω aa,<-hl];constructor;rintro((h1|⟨_,h2,_⟩)|⟨_,h2|⟨_,h3⟩⟩);exact(Y h1).elim;exact h2;exact h2;omega;intro J;by_cases O:N b<=k;exact .inl (.inr ⟨O,J,aa⟩);exact .inr ⟨by omega,.inl J⟩;obtain rfl:t=b:=Ω
 constructor;rintro((h1|⟨_,_,h2⟩)|⟨h1,_⟩);exact(Y h1).elim;omega;exact h1;intro hk;refine .inr ⟨hk,?_⟩;by_cases J:k<F.length;exact .inl J;exact .inr ⟨by omega,Int.le_refl _⟩;show (F.take (N b)++List.replicate (N b - F.length) b).length=N b;rw[z8,zt,List.length_replicate];omega;show (F.take (N b)++List.replicate (N b - F.length) b).length<=H;rw[z8,zt,List.length_replicate];omega
def KM(h:∀t,a<t->t<b->N (t - 1)=N t):∀(d:Nat)(t:Int),t=a+d->t<b->N t=N a|0,t,e,_=>by rw[e];simp|d+1,t,e,hb=>by rw[<-h t Ω hb];exact KM h d (t - 1) Ω Ω
def Vx(hH:∀t,N t<=H):∀(R:List aF)(a:Int)(F:List Int)(out:List aF)(A:Nat->List aF),ub N H a F out A->-1<=a->a<1099511627776->(∀s,s∈R->a<s.1/\s.1<1099511627776/\s.2=(N s.1:Int))->R.Pairwise (λ x y=>x.1<y.1)->
  (∀t,a<t->t<1099511627776->N (t - 1)≠N t->∃s,s∈R/\s.1=t)->∃(a':Int)(A':Nat->List aF),ub N H a' (R.foldl (λ x s=>fW x (s.1,s.2.toNat)) (F,out)).1 (R.foldl (λ x s=>fW x (s.1,s.2.toNat)) (F,out)).2 A'/\-1<=a'/\a'<1099511627776/\∀t,a'<t->t<1099511627776->N (t - 1)=N t
 |[],a,F,out,A,h,h1,h2,_,_,hm=>⟨a,A,h,h1,h2,fun t t1 t2=>by
  by_cases e:N (t - 1)=N t
  . exact e
  . obtain ⟨s,hs,_⟩:=hm t t1 t2 e;simp at hs⟩
 |s::R,a,F,out,A,h,h1,h2,hr,hp,hm=>by
  obtain⟨s1,s2,s3⟩:=hr s (by simp)
  obtain ⟨p1,p2⟩:=zM.1 hp;obtain ⟨A',h'⟩:=h.set (b:=s.1) s1 (by omega) (by omega) (fun t t1 t2=>KM (a:=a) (b:=s.1) (fun u u1 u2=>by
   by_cases e:N (u - 1)=N u
   . exact e
   . obtain⟨q,hq,J⟩:=hm u u1 (by omega) e
     rcases zC.1 hq with rfl|hq
     . omega
     . have:=p1 q hq;omega) (t - a).toNat t (by omega) t2) (hH _)
  rw[List.foldl_cons];have e:fW (F,out) (s.1,s.2.toNat)=fW (F,out) (s.1,N s.1):=by rw[s3,zN]
  rw [e];obtain ⟨a',A2,g1,g2,g3,g4⟩:=Vx hH R s.1 _ _ A' h' (by omega) s2 (fun q hq=>⟨p1 q hq,(hr q (by simp [hq])).2⟩) p2 (fun t t1 t2 e=>by
   obtain⟨q,hq,J⟩:=hm t (by omega) t2 e
   rcases zC.1 hq with rfl|hq
   . omega
   . exact ⟨q,hq,J⟩)
  exact⟨a',A2,g1,g2,g3,g4⟩
def xIW(hH:∀t,N t<=H)(h0:∀t,t<0\/1099511627776<=t->N t=0){S:List aF}(hS:aL (λ t=>(N t:Int)) 1099511627776 S){P:List aF}(hP:P.Perm (fW (S.foldl (λ x s=>fW x (s.1,s.2.toNat)) ([],[])) (1099511627776,0)).2)(hs:aH dh P):bD N P:=by
 obtain ⟨a,A,g1,g2,g3,g4⟩:=Vx hH S (-1) [] [] _ (ub.start fun t ht=>h0 t (.inl ht)) Ω Ω (fun s hs=>by
  obtain ⟨m1,m2,m3,_⟩:=(hS.mem s).1 hs;exact ⟨by omega,m2,m3⟩) hS.asc (fun t t1 t2 e=>by
  refine⟨(t,(N t:Int)),(hS.mem _).2 ⟨by dsimp only;omega,t2,rfl,?_⟩,rfl⟩
  refine .inr ?_;dsimp only;omega)
 have hz:N 1099511627776=0:=h0 _ (.inr (Int.le_refl _));obtain⟨A',h'⟩:=g1.set (b:=1099511627776) g3 Ω Ω (λ t t1 t2=>KM (λ u u1 u2=>g4 u u1 u2) (t - a).toNat t Ω t2) (hH _);rw[hz]at h';have hF:=h'.len;rw[hz]at hF;refine⟨hs,A',H,hH,λ k=>⟨h'.span k,λ t=>?_⟩,hP.trans h'.perm⟩;rw[Bool.eq_iff_iff,zl];by_cases ht:t<=1099511627776;rw[<-h'.cov k t ht];refine⟨Or.inl,λ hh=>hh.elim id λ⟨hk,_⟩=>?_⟩;rw[hF]at hk;omega;rw[h0 t (.inr Ω)];refine⟨λ hi=>?_,λ hh=>by omega⟩;have:=(LB hi).2;omega
def xrS(l:List aF)(hl:l.length<=1048576):aB (AA (l.map aA) ((l.length:Nat):Int)) ((0:Nat),(0:Int),[])=some ((l.flatMap (λ(f:aF)=>[(f,(1:Int))])).length,(l.flatMap (λ(f:aF)=>[(f,(1:Int))])).map dO):=by
 refine vE l (λ(f:aF)=>[(f,(1:Int))]) dO 1 (λ f hf=>?_) (λ n h D hD=>?_) (λ D=>?_);simp;have h1:(n:Int)<(l.length:Int):=Ω
 have m1:(D.length+1)*24<=140737488355328:=Ω
 have m2:D.length+1<=4611686018427387904:=Ω
 have gf:(l.map aA).getD n .top=aA l[n]:=cH _ _ _ h;simp only[AA,HE,bR,h,h1,gf,iq,ir,lP,sP,iB,iC,m1,m2,dN (n:=n) Ω];simp[dO];simp only[AA,HE,za,zy,zm,bE,aI]
def xFt(l:List aF)(hl:l.length<=1048576):Bj (l.map aA)=e7 ((l.map λ p=>(p,(1:Int))).map dO):=by have h:=xrS l hl;rw[N8]at h;unfold Bj OP OG D2;rw[za,h];simp only[po,WT]
def xvB(l:List Fc)(hl:l.length<=1048576):aB (AL (l.map encF)) ((0:Nat),(0:Int),[])=some ((l.flatMap (λ(f:Fc)=>if pv f.p then[f.r]else[])).length,(l.flatMap (λ(f:Fc)=>if pv f.p then[f.r]else[])).map encR):=by
 refine vE l (λ(f:Fc)=>if pv f.p then[f.r]else[]) encR 1 (λ f hf=>?_) (λ n h D hD=>?_) (λ D=>?_);cases q:(pv (f).p)<;>simp[q];have h1:(n:Int)<(l.length:Int):=Ω
 have m1:(D.length+1)*24<=140737488355328:=Ω
 have m2:D.length+1<=4611686018427387904:=Ω
 have gf:(l.map encF).getD n .top=encF l[n]:=cH _ _ _ h;simp only[AL,Jz,bR,h,h1,gf,mV,mW,mX,m7,m8,m9,lF,im,il,CD,m1,m2,dN (n:=n) Ω];cases q:(pv (l[n]).p)<;>simp[encR,aW,bE,encR,q,aI];simp only[AL,Jz,za,zy,zm,bE,aI]
def xui(row:Row)(l:List Fc)(hl:l.length<=1048576)(hr:∀f,f∈l->f.r.length<=maxLen):aB (Bc (l.map encF) (row.map encV)) ((0:Nat),(0:Int),[])=some ((l.flatMap (λ(f:Fc)=>if aK f.r row==0 then[(f.p,(1:Int))]else[])).length,(l.flatMap (λ(f:Fc)=>if aK f.r row==0 then[(f.p,(1:Int))]else[])).map dO):=by
 refine vE l (λ(f:Fc)=>if aK f.r row==0 then[(f.p,(1:Int))]else[]) dO 1 (λ f hf=>?_) (λ n h D hD=>?_) (λ D=>?_);cases q:(aK (f).r row==0)<;>simp[q];have h1:(n:Int)<(l.length:Int):=Ω
 have m1:(D.length+1)*24<=140737488355328:=Ω
 have m2:D.length+1<=4611686018427387904:=Ω
 have gf:(l.map encF).getD n .top=encF l[n]:=cH _ _ _ h;have hm:=hr l[n] (zo h);simp only[Bc,IA,bR,h,h1,gf,mV,mW,mX,m7,m8,m9,lF,im,il,yI _ _ hm,m1,m2,dN (n:=n) Ω];cases q:(aK (l[n]).r row==0)<;>simp[dO,aW,bE,encR,q,aI];simp only[Bc,IA,za,zy,zm,bE,aI]
def xuj(row:Row)(l:List aF)(hl:l.length<=1048576):aB (xu (row.map encV) (l.map aA)) ((0:Nat),(0:Int),[])=some ((l.flatMap (λ(f:aF)=>[(⟨row,f⟩:Fc)])).length,(l.flatMap (λ(f:aF)=>[(⟨row,f⟩:Fc)])).map encF):=by
 refine vE l (λ(f:aF)=>[(⟨row,f⟩:Fc)]) encF 1 (λ f hf=>?_) (λ n h D hD=>?_) (λ D=>?_);simp;have h1:(n:Int)<(l.length:Int):=Ω
 have m1:(D.length+1)*40<=140737488355328:=Ω
 have m2:D.length+1<=4611686018427387904:=Ω
 have gf:(l.map aA).getD n .top=aA l[n]:=cH _ _ _ h;simp only[xu,IB,bR,h,h1,gf,iq,ir,lP,sP,iB,iC,m1,m2,dN (n:=n) Ω];simp[encF];simp only[xu,IB,za,zy,zm,bE,aI]
section
variable{α:Type}{enc:α->AV}{okE:AV->Bool}{ldE:AV->AV}
variable {i:Nat}{x:α}
theorem gR{l:List α}(h:l[i]?=some x):(List.map enc l).getD i .top=enc x:=by simp[List.getD,h]
theorem wN(l:List α)(i:Nat)(x:α):(List.map enc l).set i (enc x)=List.map enc (l.set i x):=by simp[List.map_set]
theorem yv{l:List α}(h:l[i]?=some x):i<l.length:=(List.getElem?_eq_some_iff.1 h).1
theorem pK{l:List α}(h:l[i]?=some x):x∈l:=List.mem_of_getElem? h
variable {j:Nat}{y:α}
theorem xIX{l:List α}(hx:x∈l)(hy:y∈l){z:α}(h:z∈(l.set i y).set j x):z∈l:=by rcases List.mem_or_eq_of_mem_set h with h|rfl;rcases List.mem_or_eq_of_mem_set h with h|rfl;exact h;exact hy;exact hx
theorem io{x:Int}{n:Nat}(h:x=(n:Int))(hn:n<=9223372036854775807):IntKind.i64.wrap x=(n:Int):=by rw[gx Ω Ω];exact h
theorem N7(h:i+j<=9223372036854775807):IntKind.i64.wrap ((IntKind.u64.wrap (IntKind.i64.wrap ((i:Int)+(j:Int)))).fdiv 2)=(((i+j) / 2:Nat):Int):=by rw[gx (n:=(i:Int)+(j:Int)) Ω Ω];(have hu:IntKind.u64.wrap ((i:Int)+(j:Int))=(i:Int)+(j:Int):=by unfold IntKind.wrap IntKind.bits IntKind.signed;simp;omega);rw[hu,Int.fdiv_eq_ediv_of_nonneg _ Ω];exact io Ω Ω
structure dE (N:Nat) (ok:α->Prop) (l:List α):Prop where
 len:l.length=N
 ok:∀x,x∈l->ok x
variable {N:Nat}{ok:α->Prop}
theorem dE.set2{l:List α}(h:dE N ok l)(hx:x∈l)(hy:y∈l):dE N ok ((l.set i y).set j x):=⟨by simp[h.len],λ z hz=>h.ok z (xIX hx hy hz)⟩
variable {l':List α}
theorem dE.perm{l:List α}(h:dE N ok l)(hp:l'.Perm l):dE N ok l':=⟨hp.length_eq.trans h.len,λ z hz=>h.ok z (hp.mem_iff.1 hz)⟩
theorem tI{σ ρ σ' ρ':Type}{p:σ->Option (σ⊕ρ)}{g:σ'->Option (σ'⊕ρ')}(I:σ->Prop)(J:ρ->Prop)(e:σ->σ')(f:ρ->ρ')(h:∀s,I s->(∀s',p s=some (.inl s')->g (e s)=some (.inl (e s'))/\I s')/\(∀r,p s=some (.inr r)->g (e s)=some (.inr (f r))/\J r)){s:σ}{r:ρ}(hI:I s)(hr:aB p s=some r):aB g (e s)=some (f r)/\J r:=by obtain⟨n,hn⟩:=Gj.1 hr;clear hr;induction n generalizing s with|zero=>simp[iterN]at hn|succ n ih=>unfold iterN at hn;obtain⟨h1,h2⟩:=h s hI;split at hn;rename_i s' hs;obtain⟨h3,h4⟩:=h1 s' hs;rw[eH h3];exact ih h4 hn;rename_i r' hs;cases hn;obtain⟨h3,h4⟩:=h2 _ hs;exact⟨cQ h3,h4⟩;simp at hn
theorem pV{σ ρ σ' ρ':Type}{p:Option (σ⊕ρ)}{g:Option (σ'⊕ρ')}{I:σ->Prop}{J:ρ->Prop}{e:σ->σ'}{f:ρ->ρ'}{s0:σ}(hp:p=some (.inl s0))(hg:g=some (.inl (e s0)))(hI:I s0):(∀s',p=some (.inl s')->g=some (.inl (e s'))/\I s')/\(∀r,p=some (.inr r)->g=some (.inr (f r))/\J r):=⟨λ s' h=>by rw[hp]at h;simp only[z6,Sum.inl.injEq]at h;subst h;exact⟨hg,hI⟩,λ r h=>by rw[hp]at h;simp at h⟩
theorem sc{σ ρ σ' ρ':Type}{p:Option (σ⊕ρ)}{g:Option (σ'⊕ρ')}{I:σ->Prop}{J:ρ->Prop}{e:σ->σ'}{f:ρ->ρ'}{r0:ρ}(hp:p=some (.inr r0))(hg:g=some (.inr (f r0)))(hJ:J r0):(∀s',p=some (.inl s')->g=some (.inl (e s'))/\I s')/\(∀r,p=some (.inr r)->g=some (.inr (f r))/\J r):=⟨λ s' h=>by rw[hp]at h;simp at h,λ r h=>by rw[hp]at h;simp only[z6,Sum.inr.injEq]at h;subst h;exact⟨hg,hJ⟩⟩
theorem nm{σ ρ σ' ρ':Type}{p:Option (σ⊕ρ)}{g:Option (σ'⊕ρ')}{I:σ->Prop}{J:ρ->Prop}{e:σ->σ'}{f:ρ->ρ'}(hp:p=none):(∀s',p=some (.inl s')->g=some (.inl (e s'))/\I s')/\(∀r,p=some (.inr r)->g=some (.inr (f r))/\J r):=⟨λ s' h=>by rw[hp]at h;simp at h,λ r h=>by rw[hp]at h;simp at h⟩
variable {P:AV->AV->Bool}{V:AV->AV->Int}{c:α->α->Int}{g:Int×List AV->Option ((Int×List AV)⊕List AV)}
theorem xKX(he:∀a,okE (enc a))(hd:∀a,ldE (enc a)=enc a)(hN:N<=2 ^ 60)(hc:∀x y,ok x->ok y->P (enc x) (enc y)/\V (enc x) (enc y)=c x y)(a:Nat)(hg:∀(j:Int)(xs:List AV),g (j,xs)=br (decide (j>(a:Int))) (br (decide ((0:Int)<=j)&&decide (j<(N:Int))) (br (decide ((0:Nat)+j.toNat<xs.length)&&okE (xs.getD ((0:Nat)+j.toNat) AV.top)) (br (decide ((0:Int)<=IntKind.i64.wrap (j - 1))&&decide (IntKind.i64.wrap (j - 1)<(N:Int))) (br (decide ((0:Nat)+(IntKind.i64.wrap (j - 1)).toNat<xs.length)&&okE (xs.getD ((0:Nat)+(IntKind.i64.wrap (j - 1)).toNat) AV.top)) (br (P (xs.getD ((0:Nat)+j.toNat) AV.top) (xs.getD ((0:Nat)+(IntKind.i64.wrap (j - 1)).toNat) AV.top)) (br (decide (V (xs.getD ((0:Nat)+j.toNat) AV.top) (xs.getD ((0:Nat)+(IntKind.i64.wrap (j - 1)).toNat) AV.top)<0)) (br (decide ((0:Int)<=IntKind.i64.wrap (j - 1))&&decide (IntKind.i64.wrap (j - 1)<(N:Int))) (br (decide ((0:Nat)+(IntKind.i64.wrap (j - 1)).toNat<xs.length)&&okE (xs.getD ((0:Nat)+(IntKind.i64.wrap (j - 1)).toNat) AV.top)) (br (decide ((0:Int)<=j)&&decide (j<(N:Int))) (br (decide ((0:Nat)+j.toNat<xs.length)&&okE (xs.getD ((0:Nat)+j.toNat) AV.top)) (br (decide ((0:Int)<=j)&&decide (j<(N:Int))) (br (decide ((0:Nat)+j.toNat<xs.length)) (br (decide ((0:Int)<=IntKind.i64.wrap (j - 1))&&decide (IntKind.i64.wrap (j - 1)<(N:Int))) (br (decide ((0:Nat)+(IntKind.i64.wrap (j - 1)).toNat<(xs.set ((0:Nat)+j.toNat) (ldE (xs.getD ((0:Nat)+(IntKind.i64.wrap (j - 1)).toNat) AV.top))).length)) (some (.inl (IntKind.i64.wrap (j - 1),(xs.set ((0:Nat)+j.toNat) (ldE (xs.getD ((0:Nat)+(IntKind.i64.wrap (j - 1)).toNat) AV.top))).set ((0:Nat)+(IntKind.i64.wrap (j - 1)).toNat) (ldE (xs.getD ((0:Nat)+j.toNat) AV.top))))) none) none) none) none) none) none) none) none) (some (.inr xs))) none) none) none) none) none) (some (.inr xs))){l r:List α}(hl:dE N ok l)(hr:aB (mQ c a) (j,l)=some r):aB g ((j:Int),List.map enc l)=some (List.map enc r)/\dE N ok r:=by
 refine tI (I:=λ s=>dE N ok s.2) (J:=dE N ok) (e:=λ s=>((s.1:Int),List.map enc s.2)) (f:=List.map enc) ?_ (s:=(j,l)) hl hr;rintro⟨j,l⟩ (hl:dE N ok l);have W:l.length=N:=hl.len;by_cases ha:a<j;cases hx:l[j]? with|none=>exact nm (by simp[mQ,ha,hx])|some x=>cases hy:l[j - 1]? with|none=>exact nm (by simp[mQ,ha,hx,hy])|some y=>have hj:=yv hx;have Q:=yv hy;have w1:IntKind.i64.wrap ((j:Int) - 1)=((j - 1:Nat):Int):=io Ω Ω;(obtain⟨c1,c2⟩:=hc x y (hl.ok _ (pK hx)) (hl.ok _ (pK hy));have k1:(j:Int)<(N:Int):=Ω);(have k2:((j - 1:Nat):Int)<(N:Int):=Ω);(have k3:(j:Int)>(a:Int):=Ω);(have k4:j<(List.map enc l).length:=by simpa using hj);(have k5:j - 1<(List.map enc l).length:=by simpa using Q);by_cases O:c x y<0;(have hp:mQ c a (j,l)=some (.inl (j - 1,(l.set j y).set (j - 1) x)):=by simp[mQ,ha,hx,hy,O]);(have q:g ((j:Int),List.map enc l)=some (.inl (((j - 1:Nat):Int),List.map enc ((l.set j y).set (j - 1) x))):=by rw[hg];simp only[w1,zN,zH,gR hx,gR hy,he,hd,c1,c2,wN,O,k1,k2,k3,k4,k5,zn,zS,aW,Int.natCast_nonneg,za,y4,hj,Q,aI]);exact pV hp q (hl.set2 (pK hx) (pK hy));(have hp:mQ c a (j,l)=some (.inr l):=by simp[mQ,ha,hx,hy,O]);(have q:g ((j:Int),List.map enc l)=some (.inr (List.map enc l)):=by rw[hg];simp only[w1,zN,zH,gR hx,gR hy,he,hd,c1,c2,wN,O,k1,k2,k3,k4,k5,zn,zm,zS,aW,bE,Int.natCast_nonneg,aI]);exact sc hp q hl
 have hp:mQ c a (j,l)=some (.inr l):=by simp[mQ,ha]
 have k3:¬ ((j:Int)>(a:Int)):=Ω
 have q:g ((j:Int),List.map enc l)=some (.inr (List.map enc l)):=by rw[hg];simp only[k3,zm,bE,aI]
 exact sc hp q hl
def qV{T:Type}(okE:AV->Bool)(ldE:AV->AV)(N:Nat)(u v:Int)(xs:List AV)(δ:T)(κ:List AV->T):T:=br (decide ((0:Int)<=v)&&decide (v<(N:Int))) (br (decide ((0:Nat)+v.toNat<xs.length)&&okE (xs.getD ((0:Nat)+v.toNat) AV.top)) (br (decide ((0:Int)<=u)&&decide (u<(N:Int))) (br (decide ((0:Nat)+u.toNat<xs.length)&&okE (xs.getD ((0:Nat)+u.toNat) AV.top)) (br (decide ((0:Int)<=u)&&decide (u<(N:Int))) (br (decide ((0:Nat)+u.toNat<xs.length)) (br (decide ((0:Int)<=v)&&decide (v<(N:Int))) (br (decide ((0:Nat)+v.toNat<(xs.set ((0:Nat)+u.toNat) (ldE (xs.getD ((0:Nat)+v.toNat) AV.top))).length)) (κ ((xs.set ((0:Nat)+u.toNat) (ldE (xs.getD ((0:Nat)+v.toNat) AV.top))).set ((0:Nat)+v.toNat) (ldE (xs.getD ((0:Nat)+u.toNat) AV.top)))) δ) δ) δ) δ) δ) δ) δ) δ
theorem NP{T:Type}(he:∀a,okE (enc a))(hd:∀a,ldE (enc a)=enc a){l:List α}(hl:l.length=N)(hx:l[i]?=some x)(hy:l[j]?=some y){δ:T}{κ:List AV->T}:qV okE ldE N (i:Int) (j:Int) (List.map enc l) δ κ=κ (List.map enc ((l.set i y).set j x)):=by
 have h1:=yv hx;have h2:=yv hy;have k1:(i:Int)<(N:Int):=Ω
 have k2:(j:Int)<(N:Int):=Ω
 have k4:i<(List.map enc l).length:=by simpa using h1
 have k5:j<(List.map enc l).length:=by simpa using h2
 unfold qV;simp only[zN,zH,gR hx,gR hy,he,hd,wN,k1,k2,k4,k5,zn,zS,aW,Int.natCast_nonneg,za,y4,h1,h2,aI]
theorem xKZ(he:∀a,okE (enc a))(hd:∀a,ldE (enc a)=enc a)(hN:N<=2 ^ 60)(a b n:Nat)(ha:a<=2 ^ 60)(hb:b<=2 ^ 60)(hn:n<=2 ^ 60)(hg:∀(i:Int)(xs:List AV),g (i,xs)=br (decide (i<(n:Int))) (qV okE ldE N (IntKind.i64.wrap ((a:Int)+i)) (IntKind.i64.wrap ((b:Int)+i)) xs none λ ys=>some (.inl (IntKind.i64.wrap (i+1),ys))) (some (.inr xs))){l r:List α}(hl:dE N ok l)(hr:qA a b n l=some r):aB g ((0:Int),List.map enc l)=some (List.map enc r)/\dE N ok r:=by refine tI (I:=λ s=>dE N ok s.2) (J:=dE N ok) (e:=λ s=>((s.1:Int),List.map enc s.2)) (f:=List.map enc) ?_ (s:=(0,l)) hl hr;rintro⟨i,l⟩ (hl:dE N ok l);by_cases hi:i<n;(cases hx:l[a+i]? with|none=>exact nm (by simp[uj,hi,hx])|some x=>cases hy:l[b+i]? with|none=>exact nm (by simp[uj,hi,hx,hy])|some y=>refine pV (s0:=(i+1,(l.set (a+i) y).set (b+i) x)) (by simp[uj,hi,hx,hy]) ?_ (hl.set2 (pK hx) (pK hy));rw[hg,show decide ((i:Int)<(n:Int))=true by simp[hi],aW,io (n:=a+i) Ω Ω,io (n:=b+i) Ω Ω,NP he hd hl.len hx hy,io (n:=i+1) Ω Ω]);refine sc (r0:=l) (by simp[uj,hi]) ?_ hl;rw[hg,show decide ((i:Int)<(n:Int))=false by simp;omega,bE]
variable {k:Nat}
theorem xM0(he:∀a,okE (enc a))(hd:∀a,ldE (enc a)=enc a)(hN:N<=2 ^ 60)(e i:Nat)(hi:i=e+1)(q:e<=2 ^ 60)(hg:∀(k:Int)(xs:List AV),g (k,xs)=br (decide (k<IntKind.i64.wrap ((i:Int) - 1))) (qV okE ldE N k (IntKind.i64.wrap (k+1)) xs none λ ys=>some (.inl (IntKind.i64.wrap (k+1),ys))) (some (.inr xs))){l r:List α}(hl:dE N ok l)(hr:aB (sO e) (k,l)=some r):aB g ((k:Int),List.map enc l)=some (List.map enc r)/\dE N ok r:=by refine tI (I:=λ s=>dE N ok s.2) (J:=dE N ok) (e:=λ s=>((s.1:Int),List.map enc s.2)) (f:=List.map enc) ?_ (s:=(k,l)) hl hr;rintro⟨k,l⟩ (hl:dE N ok l);have we:IntKind.i64.wrap ((i:Int) - 1)=(e:Int):=io Ω Ω;by_cases hk:k<e;(cases hx:l[k]? with|none=>exact nm (by simp[sO,hk,hx])|some x=>cases hy:l[k+1]? with|none=>exact nm (by simp[sO,hk,hx,hy])|some y=>refine pV (s0:=(k+1,(l.set k y).set (k+1) x)) (by simp[sO,hk,hx,hy]) ?_ (hl.set2 (pK hx) (pK hy));rw[hg,we,show decide ((k:Int)<(e:Int))=true by simp[hk],aW,io (n:=k+1) Ω Ω,NP he hd hl.len hx hy]);refine sc (r0:=l) (by simp[sO,hk]) ?_ hl;rw[hg,we,show decide ((k:Int)<(e:Int))=false by simp;omega,bE]
theorem xJp(he:∀a,okE (enc a))(hd:∀a,ldE (enc a)=enc a)(hN:N<=2 ^ 60)(e:Nat)(hg:∀(k:Int)(xs:List AV),g (k,xs)=br (decide (k>(e:Int))) (qV okE ldE N k (IntKind.i64.wrap (k - 1)) xs none λ ys=>some (.inl (IntKind.i64.wrap (k - 1),ys))) (some (.inr xs))){l r:List α}(hl:dE N ok l)(hr:aB (sL e) (k,l)=some r):aB g ((k:Int),List.map enc l)=some (List.map enc r)/\dE N ok r:=by refine tI (I:=λ s=>dE N ok s.2) (J:=dE N ok) (e:=λ s=>((s.1:Int),List.map enc s.2)) (f:=List.map enc) ?_ (s:=(k,l)) hl hr;rintro⟨k,l⟩ (hl:dE N ok l);by_cases hk:e<k;(cases hx:l[k]? with|none=>exact nm (by simp[sL,hk,hx])|some x=>cases hy:l[k - 1]? with|none=>exact nm (by simp[sL,hk,hx,hy])|some y=>have q:=hl.len;have:=yv hx;refine pV (s0:=(k - 1,(l.set k y).set (k - 1) x)) (by simp[sL,hk,hx,hy]) ?_ (hl.set2 (pK hx) (pK hy));rw[hg,show decide ((k:Int)>(e:Int))=true by simp[hk],aW,io (x:=(k:Int) - 1) (n:=k - 1) Ω Ω,NP he hd hl.len hx hy]);refine sc (r0:=l) (by simp[sL,hk]) ?_ hl;rw[hg,show decide ((k:Int)>(e:Int))=false by simp;omega,bE]
def wr{T:Type}(okE:AV->Bool)(N:Nat)(P:AV->AV->Bool)(u v:Int)(xs:List AV)(δ:T)(κ:AV->AV->T):T:=br (decide ((0:Int)<=u)&&decide (u<(N:Int))) (br (decide ((0:Nat)+u.toNat<xs.length)&&okE (xs.getD ((0:Nat)+u.toNat) AV.top)) (br (decide ((0:Int)<=v)&&decide (v<(N:Int))) (br (decide ((0:Nat)+v.toNat<xs.length)&&okE (xs.getD ((0:Nat)+v.toNat) AV.top)) (br (P (xs.getD ((0:Nat)+u.toNat) AV.top) (xs.getD ((0:Nat)+v.toNat) AV.top)) (κ (xs.getD ((0:Nat)+u.toNat) AV.top) (xs.getD ((0:Nat)+v.toNat) AV.top)) δ) δ) δ) δ) δ
theorem xKh{T:Type}(he:∀a,okE (enc a)){l:List α}(hl:l.length=N)(hx:l[i]?=some x)(hy:l[j]?=some y)(hP:P (enc x) (enc y)){δ:T}{κ:AV->AV->T}:wr okE N P (i:Int) (j:Int) (List.map enc l) δ κ=κ (enc x) (enc y):=by
 have h1:=yv hx;have h2:=yv hy;have k1:(i:Int)<(N:Int):=Ω
 have k2:(j:Int)<(N:Int):=Ω
 have k4:i<(List.map enc l).length:=by simpa using h1
 have k5:j<(List.map enc l).length:=by simpa using h2
 unfold wr;simp only[zN,zH,gR hx,gR hy,he,hP,k1,k2,k4,k5,zn,zS,aW,Int.natCast_nonneg,aI]
def DL(i j:Int):Int:=IntKind.i64.wrap ((IntKind.u64.wrap (IntKind.i64.wrap (i+j))).fdiv 2)
theorem NH(he:∀a,okE (enc a))(hN:N<=2 ^ 60)(hc:∀x y,ok x->ok y->P (enc x) (enc y)/\V (enc x) (enc y)=c x y){g:Int×Int×List AV->Option ((Int×Int×List AV)⊕(Int×List AV))}(u v:Nat->Nat)(U V':Int->Int)(lo hi:Nat)(W:hi<=2 ^ 61)(hu:∀h,lo<=h->h<hi->U (h:Int)=(u h:Int))(hv:∀h,lo<=h->h<hi->V' (h:Int)=(v h:Int))(t:Int->Bool)(hg:∀(i j:Int)(xs:List AV),g (i,j,xs)=br (decide (i<j)) (wr okE N P (U (DL i j)) (V' (DL i j)) xs none λ X Y=>br (t (V X Y)) (some (.inl (IntKind.i64.wrap (DL i j+1),j,xs))) (some (.inl (i,DL i j,xs)))) (some (.inr (i,xs)))){l:List α}(hl:dE N ok l){r:Nat}(h1:lo<=i)(h2:j<=hi)(h3:i<=hi)(hr:aB (mb λ h=>(gP c l (u h) (v h)).map t) (i,j)=some r):aB g ((i:Int),(j:Int),List.map enc l)=some ((r:Int),List.map enc l)/\lo<=r/\r<=hi:=by
 refine tI (I:=λ s=>lo<=s.1/\s.2<=hi/\s.1<=hi) (J:=λ r=>lo<=r/\r<=hi) (e:=λ(s:Nat×Nat)=>((s.1:Int),(s.2:Int),List.map enc l)) (f:=λ(r:Nat)=>((r:Int),List.map enc l)) ?_ (s:=(i,j)) ⟨h1,h2,h3⟩ hr;rintro⟨i,j⟩ ⟨h1,h2,h3⟩;dsimp only at h1 h2 h3;by_cases q:i<j;have hh:DL (i:Int) (j:Int)=(((i+j) / 2:Nat):Int):=N7 Ω;have b1:lo<=(i+j) / 2:=Ω
 have b2:(i+j) / 2<hi:=Ω
 have Q:decide ((i:Int)<(j:Int)):=by simp[q]
 cases hx:l[u ((i+j) / 2)]? with|none=>exact nm (by simp[mb,q,gP,hx])|some x=>cases hy:l[v ((i+j) / 2)]? with|none=>exact nm (by simp[mb,q,gP,hx,hy])|some y=>obtain⟨c1,c2⟩:=hc x y (hl.ok _ (pK hx)) (hl.ok _ (pK hy));have O:=hg (i:Int) (j:Int) (List.map enc l);rw[Q,aW,hh,hu _ b1 b2,hv _ b1 b2,xKh he hl.len hx hy c1,c2]at O;cases ht:t (c x y)with|true=>rw[ht,aW,io (n:=(i+j) / 2+1) Ω Ω]at O;exact pV (s0:=((i+j) / 2+1,j)) (by simp[mb,q,gP,hx,hy,ht]) O ⟨by dsimp only;omega,h2,by dsimp only;omega⟩|false=>rw[ht,bE]at O;exact pV (s0:=(i,(i+j) / 2)) (by simp[mb,q,gP,hx,hy,ht]) O ⟨h1,by dsimp only;omega,h3⟩
 have Q:decide ((i:Int)<(j:Int))=false:=by simp;omega
 refine sc (r0:=i) (by simp[mb,q]) ?_ ⟨h1,h3⟩;rw[hg,Q,bE]
theorem xKY(hN:N<=2 ^ 60){SW:Int->Int->Int->List AV->Option (List AV)}(q:∀(a b n:Nat)(l r:List α),a<=2 ^ 60->b<=2 ^ 60->n<=2 ^ 60->dE N ok l->qA a b n l=some r->SW a b n (List.map enc l)=some (List.map enc r)/\dE N ok r){g:Int×Int×List AV->Option ((Int×Int×List AV)⊕(Int×List AV))}(m:Nat)(hm:m<=N)(hg:∀(i j:Int)(xs:List AV),g (i,j,xs)=br (i !=j) (br (decide (i>j)) (br (SW (IntKind.i64.wrap ((m:Int) - i)) m j xs).isSome (some (.inl (IntKind.i64.wrap (i - j),j,(SW (IntKind.i64.wrap ((m:Int) - i)) m j xs).getD []))) none) (br (SW (IntKind.i64.wrap ((m:Int) - i)) (IntKind.i64.wrap (IntKind.i64.wrap ((m:Int)+j) - i)) i xs).isSome (some (.inl (i,IntKind.i64.wrap (j - i),(SW (IntKind.i64.wrap ((m:Int) - i)) (IntKind.i64.wrap (IntKind.i64.wrap ((m:Int)+j) - i)) i xs).getD []))) none)) (some (.inr (i,xs)))){l:List α}{i':Nat}(hi:i<=m)(hj:m+j<=N)(hl:dE N ok l)(hr:aB (pr m) (i,j,l)=some (i',l')):aB g ((i:Int),(j:Int),List.map enc l)=some ((i':Int),List.map enc l')/\i'<=m/\dE N ok l':=by
 refine tI (I:=λ s=>s.1<=m/\m+s.2.1<=N/\dE N ok s.2.2) (J:=λ r=>r.1<=m/\dE N ok r.2) (e:=λ(s:Nat×Nat×List α)=>((s.1:Int),(s.2.1:Int),List.map enc s.2.2)) (f:=λ(r:Nat×List α)=>((r.1:Int),List.map enc r.2)) ?_ (s:=(i,j,l)) ⟨hi,hj,hl⟩ hr;rintro⟨i,j,l⟩ ⟨hi,hj,hl⟩;dsimp only at hi hj hl;by_cases h1:i=j;subst h1;refine sc (r0:=(i,l)) (by simp[pr]) ?_ ⟨hi,hl⟩;rw[hg];simp[bE,aI];have d1:((i:Int) !=(j:Int)):=by simp;omega
 have w1:IntKind.i64.wrap ((m:Int) - (i:Int))=((m - i:Nat):Int):=io Ω Ω;by_cases h2:j<i;cases hs:qA (m - i) m j l with|none=>exact nm (by simp[pr,h1,h2,hs])|some l1=>obtain⟨e1,e2⟩:=q (m - i) m j l l1 Ω Ω Ω hl hs;refine pV (s0:=(i - j,j,l1)) (by simp[pr,h1,h2,hs]) ?_ ⟨by dsimp only;omega,hj,e2⟩;rw[hg,d1,aW,show decide ((i:Int)>(j:Int))=true by simp[h2],aW,w1,e1,io (x:=(i:Int) - (j:Int)) (n:=i - j) Ω Ω];rfl
 cases hs:qA (m - i) (m+j - i) i l with|none=>exact nm (by simp[pr,h1,h2,hs])|some l1=>obtain⟨e1,e2⟩:=q (m - i) (m+j - i) i l l1 Ω Ω Ω hl hs;refine pV (s0:=(i,j - i,l1)) (by simp[pr,h1,h2,hs]) ?_ ⟨hi,by dsimp only;omega,e2⟩;rw[hg,d1,aW,show decide ((i:Int)>(j:Int))=false by simp;omega,bE,w1,io (x:=(m:Int)+(j:Int)) (n:=m+j) Ω Ω,io (x:=((m+j:Nat):Int) - (i:Int)) (n:=m+j - i) Ω Ω,e1,io (x:=(j:Int) - (i:Int)) (n:=j - i) Ω Ω];rfl
theorem xJq(hN:N<=2 ^ 60)(a b:Nat)(hb:b<=N){gi:Int->Int×List AV->Option ((Int×List AV)⊕List AV)}(hi:∀(i:Nat)(l r:List α),dE N ok l->aB (mQ c a) (i,l)=some r->aB (gi i) ((i:Int),List.map enc l)=some (List.map enc r)/\dE N ok r)(hg:∀(i:Int)(xs:List AV),g (i,xs)=br (decide (i<(b:Int))) (br (aB (gi i) (i,xs)).isSome (some (.inl (IntKind.i64.wrap (i+1),(aB (gi i) (i,xs)).getD []))) none) (some (.inr xs))){l r:List α}(hl:dE N ok l)(hr:aB (sM c a b) (i,l)=some r):aB g ((i:Int),List.map enc l)=some (List.map enc r)/\dE N ok r:=by refine tI (I:=λ s=>dE N ok s.2) (J:=dE N ok) (e:=λ s=>((s.1:Int),List.map enc s.2)) (f:=List.map enc) ?_ (s:=(i,l)) hl hr;rintro⟨i,l⟩ (hl:dE N ok l);by_cases h:i<b;(cases hs:aB (mQ c a) (i,l)with|none=>exact nm (by simp[sM,h,hs])|some l1=>obtain⟨e1,e2⟩:=hi i l l1 hl hs;refine pV (s0:=(i+1,l1)) (by simp[sM,h,hs]) ?_ e2;rw[hg,show decide ((i:Int)<(b:Int))=true by simp[h],aW,e1,io (x:=(i:Int)+1) (n:=i+1) Ω Ω];rfl);refine sc (r0:=l) (by simp[sM,h]) ?_ hl;rw[hg,show decide ((i:Int)<(b:Int))=false by simp;omega,bE]
theorem U1(hN:N<=2 ^ 60)(w:Nat)(hw:w<=2 ^ 61){p:Nat×Nat×List α->Option ((Nat×Nat×List α)⊕(Nat×List α))}{F:Nat->Nat->List α->Option (List α)}(q:∀a b l l',b<=N->F a b l=some l'->p (a,b,l)=some (.inl (b,b+w,l')))(Q:∀a b l,b<=N->F a b l=none->p (a,b,l)=none)(O:∀a b l,¬ b<=N->p (a,b,l)=some (.inr (a,l))){G:Int->Int->List AV->Option (List AV)}(hF:∀(a b:Nat)(l r:List α),a<=b->b=a+w->b<=N->dE N ok l->F a b l=some r->G a b (List.map enc l)=some (List.map enc r)/\dE N ok r){g:Int×Int×List AV->Option ((Int×Int×List AV)⊕(Int×List AV))}(hg:∀(a b:Int)(xs:List AV),g (a,b,xs)=br (decide (b<=(N:Int))) (br (G a b xs).isSome (some (.inl (b,IntKind.i64.wrap (b+(w:Int)),(G a b xs).getD []))) none) (some (.inr (a,xs)))){l:List α}{a a':Nat}(hl:dE N ok l)(hr:aB p (a,a+w,l)=some (a',l'))(ha:a<=N):aB g ((a:Int),((a+w:Nat):Int),List.map enc l)=some ((a':Int),List.map enc l')/\a'<=N/\N<a'+w/\dE N ok l':=by refine tI (I:=λ s=>s.1<=N/\s.2.1=s.1+w/\dE N ok s.2.2) (J:=λ r=>r.1<=N/\N<r.1+w/\dE N ok r.2) (e:=λ(s:Nat×Nat×List α)=>((s.1:Int),(s.2.1:Int),List.map enc s.2.2)) (f:=λ(r:Nat×List α)=>((r.1:Int),List.map enc r.2)) ?_ (s:=(a,a+w,l)) ⟨ha,rfl,hl⟩ hr;rintro⟨a,b,l⟩ ⟨h1,h2,hl⟩;dsimp only at h1 h2 hl;by_cases h:b<=N;(cases hs:F a b l with|none=>exact nm (Q _ _ _ h hs)|some l1=>obtain⟨e1,e2⟩:=hF a b l l1 Ω h2 h hl hs;refine pV (s0:=(b,b+w,l1)) (q _ _ _ _ h hs) ?_ ⟨h,rfl,e2⟩;rw[hg,show decide ((b:Int)<=(N:Int))=true by simp[h],aW,e1,io (x:=(b:Int)+(w:Int)) (n:=b+w) Ω Ω];rfl);refine sc (r0:=(a,l)) (O _ _ _ h) ?_ ⟨h1,by dsimp only;omega,hl⟩;rw[hg,show decide ((b:Int)<=(N:Int))=false by simp;omega,bE]
end
def kO(l:List Row):Prop:=l.length<=1048576/\∀x,x∈l->x.length<=1048576
def kO.perm{l l':List Row}(h:kO l)(hp:l'.Perm l):kO l':=⟨by rw[hp.length_eq];exact h.1,λ x hx=>h.2 x (hp.mem_iff.1 hx)⟩
def V4{f:Nat}(h:n<=1048576)(hf:20<=f):n<=2 ^ f:=Nat.le_trans h (Nat.pow_le_pow_right (n:=2) Ω hf:2 ^ 20<=2 ^ f)
def xGM(x y:Row)(hx:x.length<=maxLen):J6 (x.map encV) (y.map encV) []=some (decide (aK x y<0)):=by
 have h:aB (AY (x.map encV) (y.map encV) []) (0:Int)=some (false,false,()):=cQ (by
  simp only [AY,OY,List.length_nil,aI];rfl)
 unfold J6 Qd;rw[h,yI x y hx];rfl
def xHC(a b:List Row)(ha:a.length+b.length<=1048576)(Z:∀x,x∈a->x.length<=1048576)(W:∀x,x∈b->x.length<=1048576)(sa:aH (aK) a)(sb:aH (aK) b):∀(n i k:Nat)(D:List Row),(a.length - i)+(b.length - k)=n->i<=a.length->k<=b.length->D.length=i+k->∃r,aB (ta (List.map encR a) (List.map encR b) []) (D.length,(i:Int),(k:Int),List.map encR D)=some (a.length+b.length,List.map encR (D++r))/\r.Perm (a.drop i++b.drop k)/\aH (aK) r:=by intro n;induction n with|zero=>(intro i k D hn hi hk hD;have h1:¬ (i:Int)<(a.length:Int):=Ω);(have h2:¬ (k:Int)<(b.length:Int):=Ω);refine⟨[],cQ ?_,?_,by simp[aH]⟩;simp only[ta,xX,xQ,xR,xS,  za,dY,h1,h2,zm,zT,if_false,zD,aI];rw[show D.length=a.length+b.length by omega];rw[zq Ω,zq Ω];exact List.Perm.refl _|succ n ih=>
 intro i k D hn hi hk hD;have Y:(List.map encR D).length=D.length:=by simp
 have m1:(D.length+1)*24<=140737488355328:=Ω
 have m2:D.length+1<=4611686018427387904:=Ω
 have snoc:∀x:Row,List.map encR D++[AV.list 3 (x.map encV)]=List.map encR (D++[x]):=λ x=>by simp[encR]
 have wi:=tM (n:=i) (show i+1<=maxLen by unfold maxLen;omega);have wk:=tM (n:=k) (show k+1<=maxLen by unfold maxLen;omega);by_cases J:i<a.length;have i1:(i:Int)<(a.length:Int):=Ω
 have i2:((i:Int)==(a.length:Int))=false:=by simp;omega
 have hx:a[i]?=some a[i]:=by simp[J]
 by_cases q:k<b.length;have k1:(k:Int)<(b.length:Int):=Ω
 have hy:b[k]?=some b[k]:=by simp[q]
 have e:=xGM b[k] a[i] (by have:=W b[k] (zo q);unfold maxLen;omega);by_cases hc:aK b[k] a[i]<0;obtain⟨r,h1,h2,h3⟩:=ih i (k+1) (D++[b[k]]) Ω hi Ω (by simp;omega);refine⟨b[k]::r,?_,?_,?_⟩;refine kP (s':=((D++[b[k]]).length,(i:Int),((k+1:Nat):Int),List.map encR (D++[b[k]]))) ?_ (by rw[h1];simp);simp only[ta,xX,xQ,xR,xS,  za,dY,i1,i2,k1,J,q,zn,zT,if_false,if_true,zN,gR hx,gR hy,kV,lc,e,zk,zh,hc,Int.natCast_nonneg,zS,beq_self_eq_true,m1,m2,snoc,wk,aI];simp;rw[jr q];exact(h2.cons _).trans List.perm_middle.symm;refine zM.2 ⟨λ z hz=>?_,h3⟩;rcases zG.1 (h2.mem_iff.1 hz)with hz|hz;rw[jr J]at hz;rcases zC.1 hz with rfl|hz;omega;obtain⟨j,hj,rfl⟩:=zp.1 hz;have Q:i+1+j<a.length:=by simp at hj;omega
 have:=li sa (i:=i) (j:=i+1+j) Ω Q;rw[List.getElem_drop];exact mj.trans _ _ _ (Int.le_of_lt hc) this;obtain⟨j,hj,rfl⟩:=zp.1 hz;have O:k+1+j<b.length:=by simp at hj;omega
 rw[List.getElem_drop];exact li sb (i:=k) (j:=k+1+j) Ω O;obtain⟨r,h1,h2,h3⟩:=ih (i+1) k (D++[a[i]]) Ω Ω hk (by simp;omega);refine⟨a[i]::r,?_,?_,?_⟩;refine kP (s':=((D++[a[i]]).length,((i+1:Nat):Int),(k:Int),List.map encR (D++[a[i]]))) ?_ (by rw[h1];simp);simp only[ta,xX,xQ,xR,xS,  za,dY,i1,i2,k1,J,q,zn,zT,if_false,if_true,zN,gR hx,gR hy,kV,lc,e,zk,zh,hc,zm,Int.natCast_nonneg,zS,beq_self_eq_true,m1,m2,snoc,wi,aI];simp;rw[jr J];exact h2.cons _;refine zM.2 ⟨λ z hz=>?_,h3⟩;have V:aK a[i] b[k]<=0:=mj.ord.le_of_not hc;rcases zG.1 (h2.mem_iff.1 hz)with hz|hz;obtain⟨j,hj,rfl⟩:=zp.1 hz;have Q:i+1+j<a.length:=by simp at hj;omega
 rw[List.getElem_drop];exact li sa (i:=i) (j:=i+1+j) Ω Q;rw[jr q]at hz;rcases zC.1 hz with rfl|hz;exact V;obtain⟨j,hj,rfl⟩:=zp.1 hz;have O:k+1+j<b.length:=by simp at hj;omega
 rw[List.getElem_drop];exact mj.trans _ _ _ V (li sb (i:=k) (j:=k+1+j) Ω O);have k1:¬ (k:Int)<(b.length:Int):=Ω
 obtain⟨r,h1,h2,h3⟩:=ih (i+1) k (D++[a[i]]) Ω Ω hk (by simp;omega);refine⟨a[i]::r,?_,?_,?_⟩;refine kP (s':=((D++[a[i]]).length,((i+1:Nat):Int),(k:Int),List.map encR (D++[a[i]]))) ?_ (by rw[h1];simp);simp only[ta,xX,xQ,xR,xS,  za,dY,i1,i2,k1,J,zn,zm,zT,if_false,if_true,zN,gR hx,kV,lc,Int.natCast_nonneg,zS,beq_self_eq_true,m1,m2,snoc,wi,aI];simp;rw[jr J];exact h2.cons _;refine zM.2 ⟨λ z hz=>?_,h3⟩;rw[zq (show b.length<=k by omega),zD]at h2;obtain⟨j,hj,rfl⟩:=zp.1 (h2.mem_iff.1 hz);have Q:i+1+j<a.length:=by simp at hj;omega
 rw[List.getElem_drop];exact li sa (i:=i) (j:=i+1+j) Ω Q;have i1:¬ (i:Int)<(a.length:Int):=Ω
 have q:k<b.length:=Ω
 have k1:(k:Int)<(b.length:Int):=Ω
 have i2:((i:Int)==(a.length:Int)):=by simp;omega
 have hy:b[k]?=some b[k]:=by simp[q]
 obtain⟨r,h1,h2,h3⟩:=ih i (k+1) (D++[b[k]]) Ω hi Ω (by simp;omega);refine⟨b[k]::r,?_,?_,?_⟩;refine kP (s':=((D++[b[k]]).length,(i:Int),((k+1:Nat):Int),List.map encR (D++[b[k]]))) ?_ (by rw[h1];simp);simp only[ta,xX,xQ,xR,xS,  za,dY,i1,i2,k1,q,zn,zm,zT,if_false,if_true,zN,gR hy,kV,lc,Int.natCast_nonneg,zS,beq_self_eq_true,m1,m2,snoc,wk,aI];simp;rw[jr q];exact(h2.cons _).trans List.perm_middle.symm;refine zM.2 ⟨λ z hz=>?_,h3⟩;rw[zq (show a.length<=i by omega),zU]at h2;obtain⟨j,hj,rfl⟩:=zp.1 (h2.mem_iff.1 hz);have O:k+1+j<b.length:=by simp at hj;omega
 rw[List.getElem_drop];exact li sb (i:=k) (j:=k+1+j) Ω O
def xHD(a b:List Row)(ha:a.length+b.length<=1048576)(q:∀x,x∈a->x.length<=1048576)(J:∀x,x∈b->x.length<=1048576)(sa:aH aK a)(sb:aH aK b):∃r,Ri (a.map encR) (b.map encR) []=some (r.map encR)/\r.Perm (a++b)/\aH aK r:=by(obtain⟨r,h1,h2,h3⟩:=xHC a b ha q J sa sb _ 0 0 [] rfl (zQ _) (zQ _) rfl;simp only[zr,zU]at h1 h2;have h1':aB (ta (a.map encR) (b.map encR) []) (0,(0:Int),(0:Int),[])=some (r.length,r.map encR):=by rw[h2.length_eq,z8];exact h1);refine⟨r,?_,h2,h3⟩;unfold Ri Qe;simp only[BH,h1',po,aI]
def xHV:∀(f:Nat)(l:List Row),l.length<=2 ^ f->kO l->∃r,pG (f+1) (List.map encR l) []=some (List.map encR r)/\r.Perm l/\aH (aK) r:=by intro f;induction f with|zero=>(intro l hl hs;match l,hl with|[],_=>exact⟨[],by simp[pG,oE,uZ,dY,aI],List.Perm.refl _,by simp[aH]⟩|[x],_=>have hx:=hs.2 x Ψ;refine⟨[x],?_,List.Perm.refl _,by simp[aH]⟩;(have m1:x.length*32<=140737488355328:=Ω);(have m2:x.length<=4611686018427387904:=Ω);show oE (pG 0) (List.map encR [x]) []=_;simp[oE,uZ,E8,E9,yi,Fl,  dY,dw,encR,m1,m2,AV.toList,AV.cells,aI];exact zi Ψ)|succ f ih=>
 intro l hl hs;by_cases h2:l.length<=1;match l,h2 with|[],_=>exact⟨[],by show oE (pG (f+1)) (List.map encR []) []=_;simp[oE,uZ,dY,aI],List.Perm.refl _,by simp[aH]⟩|[x],_=>have hx:=hs.2 x Ψ;refine⟨[x],?_,List.Perm.refl _,by simp[aH]⟩;(have m1:x.length*32<=140737488355328:=Ω);(have m2:x.length<=4611686018427387904:=Ω);show oE (pG (f+1)) (List.map encR [x]) []=_;simp[oE,uZ,E8,E9,yi,Fl,  dY,dw,encR,m1,m2,AV.toList,AV.cells,aI];exact zi Ψ
 have hp:2 ^ (f+1)=2*2 ^ f:=by rw[Nat.pow_succ];omega
 have q:=hs.1;obtain⟨m,hm⟩:∃m,m=l.length / 2:=⟨_,rfl⟩;have st:kO (l.take m):=⟨by simp;omega,λ x hx=>hs.2 x (List.mem_of_mem_take hx)⟩;have sd:kO (l.drop m):=⟨by simp;omega,λ x hx=>hs.2 x (List.mem_of_mem_drop hx)⟩;obtain⟨r1,e1,p1,s1⟩:=ih (l.take m) (by simp;omega) st;obtain⟨r2,e2,p2,s2⟩:=ih (l.drop m) (by simp;omega) sd;have l1:=p1.length_eq;have l2:=p2.length_eq;simp only[zt,y3]at l1 l2;obtain⟨r,a1,a3,a4⟩:=xHD r1 r2 Ω (λ x hx=>st.2 x (p1.mem_iff.1 hx)) (λ x hx=>sd.2 x (p2.mem_iff.1 hx)) s1 s2;refine⟨r,?_,a3.trans ((p1.append p2).trans (by rw[List.take_append_drop])),a4⟩;have w:IntKind.i64.wrap ((l.length:Int).tdiv 2)=(m:Int):=by rw[Int.tdiv_eq_ediv_of_nonneg Ω];exact io Ω Ω
 have t1:List.take m (List.map encR l)=List.map encR (l.take m):=by simp
 have t2:List.take (l.length - m) (List.drop m (List.map encR l))=List.map encR (l.drop m):=by rw[zi Ψ];simp
 have d0:((l.length:Int)==0)=false:=by simp;intro h;subst h;simp at h2
 have d1:((l.length:Int)==1)=false:=by simp;omega
 have d2:(m:Int)<=(l.length:Int):=Ω
 show oE (pG (f+1)) (List.map encR l) []=_;simp only[oE,uZ,E8,E9,yi,Fl,  za,d0,d1,bE,w,zN,Nat.sub_zero,zr,t1,t2,e1,e2,zk,zh,aW,d2,zn,Int.natCast_nonneg,zS,a1,aI]
def Ld(l:List Row)(h:kO l):∃r,rY (l.map encR)=some (r.map encR)/\r.Perm l/\aH aK r:=by
 obtain⟨r,e,p,s⟩:=(λ F(hF:20<=F)=>xHV F l (V4 h.1 hF) h) 999 (by decide)
 refine⟨r,?_,p,s⟩;unfold rY Rh;rw[e];rfl
deriving instance DecidableEq for Fc
def Tr{α:Type}[DecidableEq α]{step:Int->Option (Int⊕(Bool×Bool×Unit))}(a b:List α)(hl:a.length=b.length)(hs:∀(n:Nat)(h1:n<a.length)(h2:n<b.length),step (n:Int)=if a[n]=b[n]then some (.inl ((n+1:Nat):Int))else some (.inr (true,false,())))(he:step (a.length:Int)=some (.inr (false,false,()))):aB step (0:Int)=some (if a=b then(false,false,())else(true,false,())):=by(have key:∀d n:Nat,n+d=a.length->aB step (n:Int)=some (if a.drop n=b.drop n then(false,false,())else(true,false,())):=by intro d;induction d with|zero=>(intro n h;have:n=a.length:=Ω);subst this;rw[zq (zd _),zq Ω];exact cQ he|succ d ih=>(intro n h;have h1:n<a.length:=Ω);(have h2:n<b.length:=Ω);(have:=hs n h1 h2;have e:a.drop n=b.drop n↔a[n]=b[n]/\a.drop (n+1)=b.drop (n+1):=by rw[jr h1,jr h2,List.cons.injEq]);by_cases hc:a[n]=b[n];rw[if_pos hc]at this;rw[eH this,ih (n+1) Ω];by_cases hr:a.drop (n+1)=b.drop (n+1);rw[if_pos hr,if_pos (e.2 ⟨hc,hr⟩)];rw[if_neg hr,if_neg λ h=>hr (e.1 h).2];rw[if_neg hc]at this;rw[cQ this,if_neg λ h=>hc (e.1 h).1]);have:=key a.length 0 Ω;simpa using this
def uc(v:Val):((encV v).cells.getD 0 .top).toInt=v.k:=rfl
def ud(v:Val):((encV v).cells.getD 1 .top).toInt=v.i:=rfl
def ue(v:Val):((encV v).cells.getD 2 .top).toStr=v.t:=rfl
def lV(v:Val):((encV v).cells.length==3):=rfl
def sV(v:Val):ew [Sh.int .i64,Sh.int .i64,Sh.str] (encV v).cells 0:=rfl
def xMr(x y:aF):(x.1==y.1&&x.2==y.2)=decide (x=y):=by cases x;cases y;simp[Bool.decide_and,Bool.beq_eq_decide_eq]
def kM(x y:Row):(aK x y==0)=decide (x=y):=by by_cases h:x=y;subst h;simp[vw];have:aK x y≠0:=λ e=>h (tH e);simp[h,this]
def Md(x y:Row):(aK x y !=0)=!decide (x=y):=by rw[<-kM];rfl
def xMt(x y:Fc):x=y↔x.r=y.r/\x.p=y.p:=by cases x;cases y;simp
def xsA(a b:List Fc)(hl:a.length=b.length)(ha:a.length<=1048576)(hr:∀f,f∈a->f.r.length<=maxLen):aB (xj (a.map encF) (b.map encF)) (0:Int)=some (if a=b then(false,false,())else(true,false,())):=by
 refine Tr a b hl (λ n h h2=>?_) ?_;have h1:(n:Int)<(a.length:Int):=Ω
 have h3:(n:Int)<(b.length:Int):=Ω
 have gf:(a.map encF).getD n .top=encF a[n]:=cH _ _ _ h;have gg:(b.map encF).getD n .top=encF b[n]:=cH _ _ _ h2;have hm:=hr a[n] (zo h);simp only[xj,H6,bR,h,h1,h2,h3,gf,gg,mV,mW,mX,m7,m8,m9,lF,im,il,xMr,yI _ _ hm,Md,dN (n:=n) Ω];by_cases hp:a[n].p=b[n].p<;>by_cases hq:a[n].r=b[n].r<;>simp[hp,hq,xMt,aW,bE,aI];simp only[xj,H6,za,zy,zm,bE,aI]
def T0(a b:List Fc)(ha:a.length<=1048576)(hr:∀f,f∈a->f.r.length<=maxLen):qQ (a.map encF) (b.map encF)=some (decide (a=b)):=by unfold qQ O2;by_cases hl:a.length=b.length;simp only[za,hl,bne_self_eq_false,bE,aI];rw[xsA a b hl ha hr];by_cases h:a=b<;>simp[h,aW,bE,aI];have h:a≠b:=λ e=>hl (by rw[e]);(have h2:((a.length:Int) !=(b.length:Int)):=by simp;omega);simp[h,h2,aW,aI]
def rq(l:List Fc)(t:Int):List Row:=l.flatMap λ f=>if aG f.p t then[f.r]else[]
def Wl(l:List Fc)(t:Int):(rq l t).length<=l.length:=by(have:=vJ (g:=λ f:Fc=>if aG f.p t then[f.r]else[]) (c:=1) l λ f _=>by split<;>simp);unfold rq;omega
def xJZ{l:List Fc}{t:Int}{r:Row}(h:r∈rq l t):∃f,f∈l/\f.r=r/\aG f.p t:=by obtain⟨f,hf,h⟩:=y5.1 h;split at h;rename_i hp;simp only[zv]at h;exact⟨f,hf,h.symm,hp⟩;simp at h
def xGJ(l:List Fc)(t:Int)(r:Row):(rq l t).count r=cnt l r t:=by induction l with|nil=>rfl|cons f l ih=>have e1:rq (f::l) t=(if aG f.p t then[f.r]else[])++rq l t:=rfl;have e2:cnt (f::l) r t=cnt l r t+if(decide (f.r=r)&&aG f.p t) then 1 else 0:=List.countP_cons;rw[e1,List.count_append,ih,e2];by_cases hp:aG f.p t=true;by_cases hr:f.r=r<;>simp[hp,hr]<;>omega;simp[hp]
def oM(l:List Fc):Prop:=l.length<=1048576/\∀f,f∈l->f.r.length<=1048576
def oM.at{l:List Fc}(h:oM l)(t:Int):kO (rq l t):=⟨Nat.le_trans (Wl l t) h.1,λ x hx=>by obtain⟨f,hf,rfl,_⟩:=xJZ hx;exact h.2 f hf⟩
end Go.Sim.M
