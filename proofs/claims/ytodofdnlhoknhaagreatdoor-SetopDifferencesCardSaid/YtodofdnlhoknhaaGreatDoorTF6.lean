/- Part 6 of the proof of the law. -/
import Derived.Test.YtodofdnlhoknhaaGreatDoorTF5
set_option linter.defProp false
set_option linter.unusedVariables false
set_option linter.unusedSimpArgs false
set_option linter.unnecessarySimpa false
noncomputable section
namespace Go.Sim
open Go.RowKit
def mapC(r:AV->Option (Bool×AV)):List AV->Option (Bool×List AV)|[]=>some (true,[])|x::xs=>match r x with|some (b,y)=>(match mapC r xs with|some (c,ys)=>some (b&&c,y::ys)|none=>none)|none=>none
def resEC(r:AV->Option (Bool×AV)):AV->Option (Bool×AV)|.agg cs=>(match mapC r cs with|some (b,ds)=>some (b,.agg ds)|none=>none)|x=>r x
def resC(H:List Box):Nat->AV->Option (Bool×AV)|0,x=>some (x.pure,x)|n+1,x=>match x with|.agg cs=>(match mapC (resC H n) cs with|some (b,ds)=>some (b,.agg ds)|none=>none)|.func f cs=>(match Nat.beq f vpF with|true=>none|false=>match mapC (resC H n) cs with|some (b,ds)=>some (b,.func f ds)|none=>none)|.own id ver i j=>(match getV H id ver with|some (bv,bx)=>(match isC bx.ty with|true=>none|false=>match bx.pm with|true=>some (bv&&decide (i<bx.xs.length),.eptr bx.sz bx.xs i j)|false=>match mapC (resEC (resC H n)) bx.xs with|some (b,ys)=>some (bv&&(b&&decide (i<bx.xs.length)),.eptr bx.sz ys i j)|none=>none)|none=>none)|.osl id ver off len=>(match getV H id ver with|some (bv,bx)=>(match isC bx.ty with|true=>(match bx.pm with|true=>some (bv&&(decide (off+len<=bx.xs.length)&&rowsOk bx ((bx.xs.drop off).take len)),.list bx.sz ((bx.xs.drop off).take len))|false=>none)|false=>match bx.pm with|true=>some (bv&&decide (off+len<=bx.xs.length),.list bx.sz ((bx.xs.drop off).take len))|false=>match mapC (resEC (resC H n)) ((bx.xs.drop off).take len)with|some (b,ys)=>some (bv&&(b&&decide (off+len<=bx.xs.length)),.list bx.sz ys)|none=>none)|none=>none)|x=>some (x.pure,x)
variable {q:AV->Option AV}
def xla{r:AV->Option (Bool×AV)}(h:∀x y,r x=some (true,y)->q x=some y):∀{xs ys:List AV},mapC r xs=some (true,ys)->mapO q xs=some ys
 |[],ys,e=>by simp only[mapC,z6,zb,true_and]at e;subst e;rfl
 |x::xs,ys,e=>by
  unfold mapC at e;split at e
  case h_2=>simp at e
  rename_i b y hx;split at e
  case h_2=>simp at e
  rename_i c zs hz;simp only[z6,zb,zf]at e;obtain⟨⟨rfl,rfl⟩,rfl⟩:=e;unfold mapO;rw[h _ _ hx,xla h hz]
def xmX{r:AV->Option (Bool×AV)}:∀{xs ys:List AV},mapC r xs=some (true,ys)->∀x,x∈xs->∃y,r x=some (true,y)
 |[],ys,e,x,hx=>by simp at hx
 |x::xs,ys,e,z,hz=>by
  unfold mapC at e;split at e
  case h_2=>simp at e
  rename_i b y hx;split at e
  case h_2=>simp at e
  rename_i c zs q;simp only[z6,zb,zf]at e;obtain⟨⟨rfl,rfl⟩,rfl⟩:=e;rcases zC.1 hz with rfl|hz
  . exact⟨_,hx⟩
  . exact xmX q z hz
variable {H:List Box}{n:Nat}
def xtx:∀{xs:List AV},AV.pures xs->mapO (resolve H n) xs=some xs|[],_=>rfl|x::xs,h=>by simp only[AV.pures,zf]at h;unfold mapO;rw[xlp h.1,xtx h.2]
def xwF{r:AV->Option (Bool×AV)}(h:∀x y,r x=some (true,y)->q x=some y)(x y:AV)(e:resEC r x=some (true,y)):resE q x=some y:=by(cases x<;>first|exact h _ _ e|skip);simp only[resEC]at e;split at e;(case h_2=>simp at e);rename_i b ds hd;cases e;simp only[resE,xla h hd]
def xpy{H:List Box}:∀(n:Nat)(x y:AV),resC H n x=some (true,y)->resolve H n x=some y
 |0,x,y,e=>by
  simp only[resC,z6,zb]at e;rw[<-e.2];exact xlp e.1
 |n+1,x,y,e=>by
  have ih:=xpy (H:=H) n;unfold resC at e;split at e
  . rename_i cs;split at e
    case h_2=>simp at e
    rename_i b ds hd;simp only[z6,zb]at e;obtain⟨rfl,rfl⟩:=e;have hm:=xla ih hd;by_cases hp:AV.pures cs=true
    . rw[xtx hp]at hm;cases hm;exact xlp (by simpa[AV.pure]using hp)
    . unfold resolve;rw[if_neg (by simpa[AV.pure]using hp)]
      simp only[hm]
  . rename_i f cs;split at e
    . simp at e
    rename_i Q;split at e
    case h_2=>simp at e
    rename_i b ds hd;simp only[z6,zb]at e;obtain⟨rfl,rfl⟩:=e;have hm:=xla ih hd;by_cases hp:AV.pures cs=true
    . rw[xtx hp]at hm;cases hm;exact xlp (by simpa[AV.pure]using hp)
    . unfold resolve;rw[if_neg (by simpa[AV.pure]using hp)]
      simp only[Q,hm]
  . rename_i id ver i j;split at e
    case h_2=>simp at e
    rename_i bv bx hb;unfold resolve;rw[if_neg (by simp[AV.pure])]
    split at e
    . simp at e
    rename_i J;split at e
    . rename_i q;simp only[z6,zb,zf,zl]at e;obtain⟨⟨rfl,h2⟩,rfl⟩:=e;simp only[xcc hb,mapE,q,if_true];exact if_pos ⟨h2,J⟩
    . rename_i q;split at e
      case h_2=>simp at e
      rename_i b ys hy;simp only[z6,zb,zf,zl]at e;obtain⟨⟨rfl,rfl,h2⟩,rfl⟩:=e;simp only[xcc hb,mapE,q,zT,if_false,xla (xwF ih) hy];exact if_pos ⟨h2,J⟩
  . rename_i id ver off len;split at e
    case h_2=>simp at e
    rename_i bv bx hb;unfold resolve;rw[if_neg (by simp[AV.pure])]
    split at e
    . split at e
      case h_2=>simp at e
      rename_i q;simp only[z6,zb,zf,zl]at e;obtain⟨⟨rfl,h2,h3⟩,rfl⟩:=e;simp only[xcc hb,mapE,q,if_true];exact if_pos ⟨h2,h3⟩
    rename_i J;have O:rowsOk bx ((bx.xs.drop off).take len)=true:=by unfold rowsOk;rw[J]
    split at e
    . rename_i q;simp only[z6,zb,zf,zl]at e;obtain⟨⟨rfl,h2⟩,rfl⟩:=e;simp only[xcc hb,mapE,q,if_true];exact if_pos ⟨h2,O⟩
    . rename_i q;split at e
      case h_2=>simp at e
      rename_i b ys hy;simp only[z6,zb,zf,zl]at e;obtain⟨⟨rfl,rfl,h2⟩,rfl⟩:=e;simp only[xcc hb,mapE,q,zT,if_false,xla (xwF ih) hy];exact if_pos ⟨h2,O⟩
  . simp only[z6,zb]at e;rw[<-e.2];exact xlp e.1
def getF(H:List Box):Id->Option Box|.b n=>H[n]?|.r n i j=>match H[n]? with|some bx=>(match xM2 bx.ty j,bx.pm with|true,true=>some ⟨2*((bx.xs.getD i .top).cells.getD j .top).toList.length,rowSz bx.ty,rowTy bx.ty,((bx.xs.getD i .top).cells.getD j .top).toList,bx.frz,true⟩|_,_=>none)|none=>none
def xNA(H:List Box):Nat->AV->List Nat|0,_=>[]|n+1,x=>match x with|.agg cs=>cs.flatMap (xNA H n)|.func _ cs=>cs.flatMap (xNA H n)|.own id _ _ _=>id.base::(match getF H id with|some bx=>(match bx.pm with|true=>[]|false=>bx.xs.flatMap λ(e:AV)=>e.cells.flatMap (xNA H n))|none=>[])|.osl id _ off len=>id.base::(match getF H id with|some bx=>(match bx.pm with|true=>[]|false=>((bx.xs.drop off).take len).flatMap λ(e:AV)=>e.cells.flatMap (xNA H n))|none=>[])|_=>[]
def xfl{α β:Type}{f g:α->List β}:∀{l:List α},(∀x,x∈l->f x=g x)->l.flatMap f=l.flatMap g|[],_=>rfl|x::xs,h=>by rw[zR,zR,h x Ψ,xfl λ y hy=>h y (by simp[hy])]
def xqJ{α β:Type}{f:α->List β}:∀{l:List α},(∀x,x∈l->f x=[])->l.flatMap f=[]|[],_=>rfl|x::xs,h=>by rw[zR,h x Ψ,xqJ λ y hy=>h y (by simp[hy])];rfl
variable {xs:List AV}
def xy7(h:AV.pures xs){x:AV}(hx:x∈xs):x.pure:=by rw[xvw,zI]at h;exact h x hx
theorem xvj{id:Id}{ver:Nat}{b:Bool}{bx:Box}(h:getV H id ver=some (b,bx)):getF H id=some bx:=by unfold getV getF at *;grind
def xu0{r:AV->Option (Bool×AV)}{e y:AV}(h:resEC r e=some (true,y)):∀c,c∈e.cells->∃d,r c=some (true,d):=by(intro c hc;cases e<;>first|(simp only[AV.cells,zv]at hc;subst hc;exact⟨_,h⟩)|skip);simp only[resEC]at h;split at h;(case h_2=>simp at h);rename_i b ds hd;simp only[z6,zb]at h;obtain⟨rfl,_⟩:=h;exact xmX hd c hc
def xo9{H:List Box}:∀(n:Nat)(x y:AV),resC H n x=some (true,y)->reach H n x=xNA H n x
 |0,x,y,e=>by simp[reach,xNA]
 |n+1,x,y,e=>by
  have ih:=xo9 (H:=H) n;unfold resC at e;split at e
  . rename_i cs;split at e
    case h_2=>simp at e
    rename_i b ds hd;simp only[z6,zb]at e;obtain⟨rfl,rfl⟩:=e;have h1:cs.flatMap (reach H n)=cs.flatMap (xNA H n):=xfl λ c hc=>by obtain⟨d,Q⟩:=xmX hd c hc;exact ih c d Q
    unfold reach;simp only[xNA];split
    . rename_i hp;rw[<-h1,xqJ λ c hc=>xsR (xy7 (by simpa[AV.pure]using hp) hc)]
    . exact h1
  . rename_i f cs;split at e
    . simp at e
    rename_i V;split at e
    case h_2=>simp at e
    rename_i b ds hd;simp only[z6,zb]at e;obtain⟨rfl,rfl⟩:=e;have h1:cs.flatMap (reach H n)=cs.flatMap (xNA H n):=xfl λ c hc=>by obtain⟨d,Q⟩:=xmX hd c hc;exact ih c d Q
    unfold reach;simp only[xNA];split
    . rename_i hp;rw[<-h1,xqJ λ c hc=>xsR (xy7 (by simpa[AV.pure]using hp) hc)]
    . exact h1
  . rename_i id ver i j;split at e
    case h_2=>simp at e
    rename_i bv bx hb;unfold reach;rw[if_neg (by simp[AV.pure])]
    split at e
    . simp at e
    have J:bv=true:=by
     split at e
     . simp only[z6,zb,zf]at e;exact e.1.1
     . split at e
       case h_2=>simp at e
       simp only[z6,zb,zf]at e;exact e.1.1
    subst J;simp only[xNA,xvj hb,(xa4 (xcc hb)).1];congr 1;split at e
    . rename_i q;simp only[q,if_true]
    . rename_i q;split at e
      case h_2=>simp at e
      rename_i b ys hy;simp only[z6,zb,zf]at e;obtain⟨⟨_,rfl,_⟩,_⟩:=e;simp only[q,zT,if_false];exact xfl λ e he=>xfl λ c hc=>by
       obtain⟨y,O⟩:=xmX hy e he;obtain⟨d,hd⟩:=xu0 O c hc;exact ih c d hd
  . rename_i id ver off len;split at e
    case h_2=>simp at e
    rename_i bv bx hb;unfold reach;rw[if_neg (by simp[AV.pure])]
    split at e
    . split at e
      case h_2=>simp at e
      rename_i q;simp only[z6,zb,zf]at e;obtain⟨⟨rfl,_⟩,_⟩:=e;simp only[xNA,xvj hb,(xa4 (xcc hb)).1,q,if_true]
    have J:bv=true:=by
     split at e
     . simp only[z6,zb,zf]at e;exact e.1.1
     . split at e
       case h_2=>simp at e
       simp only[z6,zb,zf]at e;exact e.1.1
    subst J;simp only[xNA,xvj hb,(xa4 (xcc hb)).1];congr 1;split at e
    . rename_i q;simp only[q,if_true]
    . rename_i q;split at e
      case h_2=>simp at e
      rename_i b ys hy;simp only[z6,zb,zf]at e;obtain⟨⟨_,rfl,_⟩,_⟩:=e;simp only[q,zT,if_false];exact xfl λ e he=>xfl λ c hc=>by
       obtain⟨y,O⟩:=xmX hy e he;obtain⟨d,hd⟩:=xu0 O c hc;exact ih c d hd
  . simp only[z6,zb]at e;rw[xsR e.1];rename_i h1 h2 h3 h4;cases x<;>first|rfl|exact(h1 _ rfl).elim|exact(h2 _ _ rfl).elim|exact(h3 _ _ _ _ rfl).elim|exact(h4 _ _ _ _ rfl).elim
variable {ys:List AV}
def xDM(h:mapC (resC H n) xs=some (true,ys)):xs.flatMap (reach H n)=xs.flatMap (xNA H n):=xfl λ c hc=>by obtain⟨d,hd⟩:=xmX h c hc;exact xo9 n c d hd
def afterC(H:List Box)(args:List AV)(r:AV):List Box:=if r.flat then H else freeze H (args.flatMap (xNA H xNl))
def xEy(h:mapC (resC H xNl) xs=some (true,ys))(r:AV):afterC H xs r=xNE H xs r:=by unfold afterC xNE;rw[xDM h]
inductive LR where|leaf (e:Exit) (out:List AV) (H:List Box)|node (t:Bool) (a b:LR)
def LR.eval:LR->Exit×List AV×List Box|.leaf e o H=>(e,o,H)|.node t a b=>match t with|true=>a.eval|false=>b.eval
def LR.run{T:Type}(f:Exit->List AV->List Box->T):LR->T|.leaf e o H=>f e o H|.node t a b=>br t (a.run f) (b.run f)
def LR.run_good{T:Type}{good:T->Prop}{f:Exit->List AV->List Box->T}:∀{r:LR},good (r.run f)->good (f r.eval.1 r.eval.2.1 r.eval.2.2)|.leaf e o H,h=>h|.node true a b,h=>LR.run_good (r:=a) h|.node false a b,h=>LR.run_good (r:=b) h
structure Lp where
 live:List Nat
 liveO:List Nat
 conv:List (Nat×Nat×TypeId)
 run:List AV->List Box->Option (Bool×LR)
structure Env where
 orc:FuncId->List AV->Option (Bool×AV)
 isM:FuncId->Bool
 orcM:FuncId->List AV->List Box->Option (Bool×AV×List Box)
 lp:Nat->Option Lp
 nt:Nat
 fuel:Nat
 pin:Nat
 ls:TypeId->Bool
def xNf:Code->Nat|.region id _ _=>id|.seq a _=>xNf a|.block _ c=>xNf c|.loop c=>xNf c|.cond _ a _=>xNf a|_=>0
def isRngOp:List Oper->Bool|[]=>false|[o]=>(match o.op with|.range _ _=>true|_=>false)|_::l=>isRngOp l
def isRng:Code->Bool|.region _ ops _=>isRngOp ops.toList|_=>false
def xNk:Code->List Code|.seq a b=>(match isRng a with|true=>[]|false=>xNk a++xNk b)|.block _ c=>xNk c|.loop c=>c::xNk c|.cond _ a b=>xNk a++xNk b|_=>[]
def xNg:Code->List Code|.seq a b=>(match isRng a with|true=>[.seq a b]|false=>xNg a++xNg b)|.block _ c=>xNg c|.loop c=>xNg c|.cond t a b=>.cond t a b::(xNg a++xNg b)|.rangeFunc g ps a b=>[.rangeFunc g ps a b]|_=>[]
def condId:Code->Nat|.cond _ a _=>1000000+xNf a|.rangeFunc _ _ _ b=>3000000+xNf b|.seq a _=>4000000+xNf a|_=>0
def xM1(P:Program)(Inv:IV)(E:Env):Prop:=(∀g args r,E.orc g args=some (true,r)->Good P Inv g args r)/\∀g args H r H',E.orcM g args H=some (true,r,H')->GoodM P Inv g args H r H'
def LoopOk(P:Program)(Inv:IV)(nt:Nat)(l:Code)(lp:Lp):Prop:=∀vals H r,lp.run vals H=some (true,r)->DoesL P Inv l (λ e1 s1=>e1=r.eval.1/\s1=⟨mkTs nt (lp.liveO.zip r.eval.2.1),r.eval.2.2⟩) ⟨mkTs nt (lp.live.zip vals),H⟩
def PieceOk(P:Program)(Inv:IV)(nt:Nat)(d:Code)(lp:Lp):Prop:=∀vals H r,lp.run vals H=some (true,r)->Does P Inv d (λ e1 s1=>e1=r.eval.1/\s1=⟨mkTs nt (lp.liveO.zip r.eval.2.1),r.eval.2.2⟩) ⟨mkTs nt (lp.live.zip vals),H⟩
def LoOk(P:Program)(Inv:IV)(E:Env)(c:Code):Prop:=(∀l,l∈xNk c->∀lp,E.lp (xNf l)=some lp->LoopOk P Inv E.nt l lp)/\∀d,d∈xNg c->∀lp,E.lp (condId d)=some lp->PieceOk P Inv E.nt d lp
variable {Inv:IV}{P:Program}{c:Code}
def LoOk.sub{E:Env}{c':Code}(h:LoOk P Inv E c)(h1:∀l,l∈xNk c'->l∈xNk c)(h2:∀d,d∈xNg c'->d∈xNg c):LoOk P Inv E c':=⟨λ l hl=>h.1 l (h1 l hl),λ d hd=>h.2 d (h2 d hd)⟩
variable {Q:Exit->St->Prop}{s:St}
def xv2{s':St}(hw:Weak Inv.pin s s')(h:DoesL P Inv c Q s'):DoesL P Inv c Q s:=λ w0 A0 w A M a Qc hI hp hs hQ=>by obtain⟨A'',M'',q⟩:=hw w0 A0 w A M a hp hs;exact h w0 A0 w A'' M'' a Qc hI hp q hQ
def xjE{s':St}(hw:Weak Inv.pin s s')(h:Does P Inv c Q s'):Does P Inv c Q s:=λ w0 A0 w A M a Qc hI hp hs hQ=>by obtain⟨A'',M'',q⟩:=hw w0 A0 w A M a hp hs;exact h w0 A0 w A'' M'' a Qc hI hp q hQ
section exec
variable{T:Type}(P:Program)(E:Env)(bad:T)
def xplain(q:Bool)(o:Oper)(s:St)(K:St->T):T:=
 if isImp o.op then
  (if q then match forkC P s.eval s.heap o.op with
   |some (b,has,b1,x,y)=>br b (br has (br b1 (force x λ x'=>putK s.tmps o.dst x' λ ts=>K ⟨ts,s.heap⟩) bad) (force y λ x'=>putK s.tmps o.dst x' λ ts=>K ⟨ts,s.heap⟩)) bad
   |none=>match iopC P s.eval s.heap o.op with
    |some (b,x,H)=>br b (force x λ x'=>putK s.tmps o.dst x' λ ts=>xNu H λ H'=>K ⟨ts,H'⟩) bad
    |none=>bad
  else bad)
 else match fopC P E.ls s.eval s.heap s.heap.length o.op with
  |some (b,x,nb)=>br b (force x λ x'=>putK s.tmps o.dst x' λ ts=>xNu (s.heap++nb.toList) λ H'=>K ⟨ts,H'⟩) bad
  |none=>bad
def xcallM(o:Oper)(c:Call)(s:St)(K:St->T):T:=match xNP s c with|some (g,args)=>(let ids:=gather s.heap 1000 (refsOf.refsL args) [];match nodupB ids with|true=>(match subBoxes (inF ids) s.heap ids with|some H0=>(xNV (rens (inF ids) args) λ aS=>xNu H0 λ H0=>match E.orcM g aS H0 with|some (b,r0,H0')=>br b (force (ren (outF ids s.heap.length ids.length) r0) λ r'=>putK s.tmps o.dst r' λ ts=>xNu (outHeap s.heap ids H0') λ H'=>K ⟨ts,H'⟩) bad|none=>bad)|none=>bad)|false=>bad)|none=>bad
def contOf(H:List Box):List AV->Option Nat|[]=>none|.osl (.b n) _ _ _::r=>(match H[n]? with|some bx=>(match isC bx.ty with|true=>some n|false=>contOf H r)|none=>contOf H r)|_::r=>contOf H r
def xcallU(o:Oper)(c:Call)(s:St)(K:St->T):T:=match xNP s c with|some (_,args)=>(match contOf s.heap args with|some n=>(match s.heap[n]? with|some bx=>(match isC bx.ty&&!xM3 bx.ty with|true=>br (rowsOk bx bx.xs) (xNu (s.heap.set n ⟨bx.ver,bx.sz,rty bx.ty,bx.xs,bx.frz,true⟩) λ H=>xcallM E bad o c ⟨s.tmps,H⟩ K) bad|false=>bad)|none=>bad)|none=>xcallM E bad o c s K)|none=>bad
def callIsM(s:St)(c:Call):Bool:=match xNP s c with|some (g,_)=>E.isM g|none=>false
def xcall(o:Oper)(c:Call)(s:St)(K:St->T):T:=match xNP s c with|some (g,args)=>(match mapC (resC s.heap xNl) args with|some (b,args')=>(br b (xNV args' fun aS=>match E.orc g aS with|some (b2,r)=>br b2 (force r λ r'=>putK s.tmps o.dst r' λ ts=>xNu (afterC s.heap args r') λ H'=>K ⟨ts,H'⟩) bad|none=>bad) bad)|none=>bad)|none=>bad
def xop(q:Bool)(o:Oper)(s:St)(K:St->T):T:=match o.op with|.pick c a b=>(match s.eval c with|.bool t=>br t (force (s.eval a) λ x=>putK s.tmps o.dst x λ ts=>K ⟨ts,s.heap⟩) (force (s.eval b) λ x=>putK s.tmps o.dst x λ ts=>K ⟨ts,s.heap⟩)|_=>bad)|.call c=>(match c.callee with|.value _=>(match callIsM E s c with|true=>(match q with|true=>xcallU E bad o c s K|false=>bad)|false=>xcall E bad o c s K)|_=>xplain P E bad q o s K)|_=>xplain P E bad q o s K
def stlV(H:List Box):AV->Bool×AV×List Nat|.osl id ver off len=>(match resC H xNl (.osl id ver off len)with|some (b,y)=>(b,y,xNA H xNl (.osl id ver off len))|none=>(false,.top,[]))|.own id ver i j=>(match resC H xNl (.own id ver i j)with|some (b,y)=>(b,y,xNA H xNl (.own id ver i j))|none=>(false,.top,[]))|x=>(true,x,[])
def stlAll(H:List Box)(q:List AV):List Nat->Bool×List AV×List Nat|[]=>(true,q,[])|t::r=>match stlAll H q r with|(b,ts,ids)=>match stlV H (q.getD t .top)with|(b',y,ids')=>(b'&&b,ts.set t y,ids'++ids)
def oslTs(ts:List AV):List Operand->List Nat|[]=>[]|.tmp t::r=>(match ts.getD t .top with|.osl _ _ _ _=>t::oslTs ts r|_=>oslTs ts r)|_::r=>oslTs ts r
def oslMix(H:List Box)(ts:List AV):Operand->List Nat|.tmp t=>(match ts.getD t .top with|.osl (.b id) _ _ _=>(match H[id]? with|some bx=>(match bx.pm with|true=>[]|false=>[t])|none=>[])|_=>[])|_=>[]
def needS(s:St)(o:Oper):List Nat:=match o.op with|.buildSlice t _ _=>(match P.underlying t with|some (.slice e)=>(match E.ls e with|true=>oslTs s.tmps o.op.operands.toList|false=>[])|_=>[])|.build t _=>(match E.ls t || E.ls (9000000+t)with|true=>oslTs s.tmps o.op.operands.toList|false=>[])|.move a=>(match o.dst with|some d=>(match E.ls (2000000+d)with|true=>oslTs s.tmps [a]|false=>[])|none=>[])|.store t _ v=>(match E.ls (4000000+t)with|true=>oslTs s.tmps [v]|false=>[])|.call c=>(match c.callee with|.builtin b=>(match b,c.argTypes.toList,c.args.toList with|.append,[t,_],[_,x]=>(match P.underlying t with|some (.slice e)=>(match E.ls e with|true=>oslMix s.heap s.tmps x|false=>[])|_=>[])|_,_,_=>[])|_=>[])|_=>[]
def xset(tl:List Nat)(o:Oper)(s:St)(K:St->T):T:=match stlAll s.heap s.tmps tl with
 |(b,q,ids)=>br b (xNV q fun q=>xNu (freeze s.heap ids) fun H1=>match isImp o.op with
  |true=>match iopC P (St.eval ⟨q,H1⟩) H1 o.op with
   |some (b2,x,H2)=>br b2 (force x λ x'=>putK s.tmps o.dst x' λ ts=>xNu H2 λ H'=>K ⟨ts,H'⟩) bad
   |none=>bad
  |false=>match fopC P E.ls (St.eval ⟨q,H1⟩) H1 H1.length o.op with
  |some (b2,x,nb)=>br b2 (force x λ x'=>putK s.tmps o.dst x' λ ts=>xNu (H1++nb.toList) λ H'=>K ⟨ts,H'⟩) bad
  |none=>bad) bad
def xfrz(o:Oper)(s:St)(K:St->T):T:=match fopBC s.eval o.op with|some (b,x)=>br b (force x λ x'=>putK s.tmps o.dst x' λ ts=>K ⟨ts,s.heap⟩) bad|none=>bad
def xopS(q:Bool)(o:Oper)(s:St)(K:St->T):T:=match needS P E s o with
 |[]=>match frzOp E.ls o.op with
  |true=>xfrz bad o s K
  |false=>xop P E bad q o s K
 |t::r=>match q with
  |true=>xset P E bad (t::r) o s K
  |false=>bad
def xguard(ops:Array Oper)(o:Oper)(s:St)(K:Bool->St->T):T:=match o.guard with|none=>K true s|some (j,want)=>match xNy ops j with|none=>K false s|some d=>match s.tmps[d]? with|none=>K false s|some (.bool t)=>br t (setK s.tmps d (.bool true) λ ts=>K (true==want) ⟨ts,s.heap⟩) (setK s.tmps d (.bool false) λ ts=>K (false==want) ⟨ts,s.heap⟩)|some (.tuple _)=>K false s|_=>bad
def xopE(o:Oper)(s:St)(K:St->T):T:=match fopEC P s.eval s.heap s.heap.length o.op with|some (b,x,nb)=>br b (force x λ x'=>putK s.tmps o.dst x' λ ts=>xNu (s.heap++nb.toList) λ H'=>K ⟨ts,H'⟩) bad|none=>xop P E bad false o s K
def xopL(o:Oper)(s:St)(K:St->T):T:=match forkC P s.eval s.heap o.op with|some (b,has,b1,x,y)=>br b (br has (br b1 (force x λ x'=>putK s.tmps o.dst x' λ ts=>K ⟨ts,s.heap⟩) bad) (force y λ x'=>putK s.tmps o.dst x' λ ts=>K ⟨ts,s.heap⟩)) bad|none=>match o.op with|.lookup _ _ _ _=>xopE P E bad o s K|_=>xopS P E bad false o s K
def xopM(md:Option Bool)(o:Oper)(s:St)(K:St->T):T:=match md with|some true=>xopS P E bad true o s K|some false=>xopL P E bad o s K|none=>xopE P E bad o s K
def xOps(q:Option Bool)(ops:Array Oper):List Oper->St->(St->T)->T|[],s,K=>K s|o::rest,s,K=>xguard bad ops o s λ b s1=>match b with|true=>xopM P E bad q o s1 λ s'=>xOps q ops rest s' K|false=>putK s1.tmps o.dst (.tuple []) λ ts=>xOps q ops rest ⟨ts,s1.heap⟩ K
def impOp(o:Oper):Bool:=match o.op with|.call c=>(match c.callee with|.value (.func g)=>E.isM g|_=>isImp o.op)|.lookup _ _ _ _=>(match E.ls 8000000 with|true=>false|false=>true)|_=>isImp o.op
def freeN:List Oper->Nat|[]=>0|o::l=>match impOp E o with|true=>0|false=>freeN l+1
def xTail(ops:Array Oper)(m:Nat):Nat->List Oper->St->(St->T)->T|_,[],s,K=>K s|k,o::rest,s,K=>match outT ops m ((masks ops).getD k 0)with|[]=>(xguard bad ops o s λ b s1=>match b with|true=>xopS P E bad true o s1 λ s'=>xTail ops m (k+1) rest s' K|false=>putK s1.tmps o.dst (.tuple []) λ ts=>xTail ops m (k+1) rest ⟨ts,s1.heap⟩ K)|d::ds=>match o.guard with|none=>xNV (maskT (d::ds) s.tmps) λ ms=>xopS P E bad true o ⟨ms,s.heap⟩ λ s'=>xNV (restT (d::ds) s.tmps s'.tmps) λ ts=>xTail ops m (k+1) rest ⟨ts,s'.heap⟩ K|some _=>bad
def isAsg(o:Oper):Bool:=match o.op with|.assign _=>true|_=>false
def tailA:List Oper->Nat|[]=>0|o::l=>match isAsg o with|true=>tailA l+1|false=>0
def cutN(ops:Array Oper):Nat:=match regOk false ops (freeN E ops.toList)with|true=>freeN E ops.toList|false=>match regOk false ops (freeN E ops.toList - 1)with|true=>freeN E ops.toList - 1|false=>freeN E ops.toList - tailA (ops.toList.take (freeN E ops.toList)).reverse
def cutA(ops:Array Oper):Nat:=freeN E ops.toList - tailA (ops.toList.take (freeN E ops.toList)).reverse
def appTo(o:Oper):Option Tmp:=match o.op with|.call c=>(match c.callee with|.builtin b=>(match b,c.args.toList with|.append,[.tmp d,_]=>some d|_,_=>none)|_=>none)|_=>none
def lit0(o:Oper):Option Tmp:=match o.op with|.buildSlice _ len _=>(match len with|0=>o.dst|_+1=>none)|_=>none
def freeE(q:List Tmp):List Oper->Nat|[]=>0|o::l=>match impOp E o with|true=>(match appTo o with|some d=>(match (xNm q d).isSome with|true=>freeE q l+1|false=>0)|none=>0)|false=>freeE q l+1
def cutE(ops:Array Oper):Nat:=freeE E (ops.toList.filterMap lit0) ops.toList
def ptrsOk(ops:Array Oper)(m:Nat)(s:St):Bool:=(List.range m).all λ i=>match ops[i]? with|some o=>(match xNr true ops m i with|true=>ptrOk s.eval o.op|false=>true)|none=>true
variable {m:Nat}{ops:Array Oper}
def xuX{s:St}(h:ptrsOk ops m s):∀i o,i<m->ops[i]?=some o->xNr true ops m i->ptrOk s.eval o.op:=λ i o hi ho hf=>by have:=zI.1 h i (List.mem_range.2 hi);simp only[ho,hf]at this;exact this
def xv7{s:St}:∀i o,i<m->ops[i]?=some o->xNr false ops m i->ptrOk s.eval o.op:=λ i o _ ho hf=>by obtain⟨o',q,h,_⟩:=xk7 hf;rw[ho]at q;cases q;exact xG0 h
def xReg1(ops:Array Oper)(q:Bool)(s:St)(K:St->T):T:=match noDefer ops with
 |false=>bad
 |true=>if q then
  if(decide (cutN E ops<=ops.size)&&regOk false ops (cutN E ops)) then
   xOps P E bad (some false) ops (ops.toList.take (cutN E ops)) s λ s1=>xTail P E bad ops (cutN E ops) (cutN E ops) (ops.toList.drop (cutN E ops)) s1 K
  else if(decide (cutE E ops<=ops.size)&&regOk false ops (cutE E ops)) then
   xOps P E bad none ops (ops.toList.take (cutE E ops)) s λ s1=>xTail P E bad ops (cutE E ops) (cutE E ops) (ops.toList.drop (cutE E ops)) s1 K
  else if(decide (freeN E ops.toList<=ops.size)&&regOk true ops (freeN E ops.toList)) then
   xOps P E bad (some false) ops (ops.toList.take (freeN E ops.toList)) s λ s1=>match ptrsOk ops (freeN E ops.toList) s1 with
    |true=>xTail P E bad ops (freeN E ops.toList) (freeN E ops.toList) (ops.toList.drop (freeN E ops.toList)) s1 K
    |false=>bad
  else if(decide (cutA E ops<=ops.size)&&regOk true ops (cutA E ops)) then
   xOps P E bad (some false) ops (ops.toList.take (cutA E ops)) s λ s1=>match ptrsOk ops (cutA E ops) s1 with
    |true=>xTail P E bad ops (cutA E ops) (cutA E ops) (ops.toList.drop (cutA E ops)) s1 K
    |false=>bad
  else bad
 else xOps P E bad (some true) ops ops.toList s K
def preS(s:St):List Oper->List Nat|[]=>[]|o::_=>match o.op with|.move a=>(match o.dst with|some d=>(match E.ls (3000000+d)with|true=>oslTs s.tmps [a]|false=>match E.ls (5000000+d)with|true=>(List.range s.tmps.length).filter λ t=>E.ls (6000000+t)|false=>[])|none=>[])|_=>match o.dst with|some d=>(match E.ls (5000000+d)with|true=>(List.range s.tmps.length).filter λ t=>E.ls (6000000+t)|false=>[])|none=>[]
def xReg2(ops:Array Oper)(q:Bool)(s:St)(K:St->T):T:=match preS E s ops.toList with|[]=>xReg1 P E bad ops q s K|t::r=>match stlAll s.heap s.tmps (t::r)with|(b,J,ids)=>br b (xNV J λ J=>xNu (freeze s.heap ids) λ H1=>xReg1 P E bad ops q ⟨J,H1⟩ K) bad
def preC(s:St):List Oper->List (Nat×Nat×TypeId)|[]=>[]|o::_=>match o.dst with|some d=>(match E.ls (10000000+d)with|true=>((List.range s.tmps.length).filter λ t=>E.ls (11000000+t)).map λ t=>(t,0,(1073741824:Nat))|false=>[])|none=>[]
def xReg(ops:Array Oper)(q:Bool)(s:St)(K:St->T):T:=match preC E s ops.toList with|[]=>xReg2 P E bad ops q s K|c::cs=>match convs (c::cs) s.tmps s.heap with|(J,H1)=>xNV J λ J=>xNu H1 λ H1=>xReg2 P E bad ops q ⟨J,H1⟩ K
def xloop(R:St->(Exit->St->T)->T):Nat->St->(Exit->St->T)->T|0,_,_=>bad|n+1,s,K=>R s λ e s'=>match e with|.normal=>xloop R n s' K|e=>K e s'
def xpiece(lp:Lp)(s:St)(K:Exit->St->T)(F:T):T:=match normS E.pin lp.conv lp.live s with|some (vals,H0)=>(xNV vals λ vals=>xNu H0 λ H0=>match lp.run vals H0 with|some (b,r)=>br (Nat.beq s.tmps.length E.nt) (br b (r.run λ e out H'=>xNV (mkTs E.nt (lp.liveO.zip out)) λ ts=>xNu H' λ H''=>K e ⟨ts,H''⟩) bad) bad|none=>F)|none=>F
def xpeel(lp:Lp)(R:St->(Exit->St->T)->T):Nat->St->(Exit->St->T)->T|0,s,K=>xpiece E bad lp s K bad|n+1,s,K=>xpiece E bad lp s K (R s fun e s'=>match e with|.normal=>xpeel lp R n s' K|e=>K e s')
def xknow(c:Operand)(b:Bool)(s:St)(K:St->T):T:=match E.ls 7000000,c with|true,.tmp n=>setK s.tmps n (.bool b) λ ts=>K ⟨ts,s.heap⟩|_,_=>K s
def X:Code->St->(Exit->St->T)->T|.skip,s,K=>K .normal s|.region _ ops draw,s,K=>xReg P E bad ops draw s (K .normal)|.seq a b,s,K=>(match isRng a with|true=>(match E.lp (4000000+xNf a)with|some lp=>xpiece E bad lp s K bad|none=>bad)|false=>X a s λ e s'=>match e with|.normal=>X b s' K|e=>K e s')|.cond c a b,s,K=>(match E.lp (1000000+xNf a)with|some lp=>xpiece E bad lp s K bad|none=>match s.eval c with|.bool t=>br t (xknow E c true s λ s=>X a s K) (xknow E c false s λ s=>X b s K)|_=>bad)|.block id c,s,K=>(X c s λ e s'=>match e with|.exit id'=>if id'=id then K .normal s' else K (.exit id') s'|e=>K e s')|.loop c,s,K=>(match E.lp (xNf c)with|some lp=>xpeel E bad lp (λ s K=>X c s K) 2 s K|none=>xloop bad (λ s K=>X c s K) E.fuel s K)|.rangeFunc _ _ _ b,s,K=>(match E.lp (3000000+xNf b)with|some lp=>xpiece E bad lp s K bad|none=>bad)|.exit id,s,K=>K (.exit id) s|.ret,s,K=>K .ret s|_,_,_=>bad
end exec
section sound
variable{T:Type}{P:Program}{Inv:IV}{E:Env}{bad:T}{good:T->Prop}
variable {s:St}
def xBi{c:Operand}{b:Bool}(h:s.eval c=.bool b)(K:St->T):xknow E c b s K=K s:=by unfold xknow;split;(rename_i n _;rw[xoY];have h:s.tmps.getD n .top=.bool b:=h;have e:s.tmps.set n (.bool b)=s.tmps:=by rcases zJ n s.tmps.length with g|g;rw[<-h];refine List.ext_getElem Ψ λ i h1 h2=>?_;rw[List.getElem_set];split;rename_i e;subst e;rw[z7,ze h2,zh];rfl;exact List.set_eq_of_length_le g);rw[e];rfl
def xcr(q:¬ good bad){t:Bool}{a:T}(h:good (br t a bad)):t/\good a:=by cases t with|true=>exact⟨rfl,h⟩|false=>exact(q h).elim
variable {J:Bool}{K:St->T}{o:Oper}
def xum(q:¬ good bad)(h:good (xplain P E bad J o s K)):
  if isImp o.op=true then J=true/\istep P o s (λ s'=>good (K s'))else fstep P o s (λ s'=>good (K s')):=by
 unfold xplain at h;split
 . rename_i hi;rw[if_pos hi]at h;split at h
   case isFalse=>exact(q h).elim
   rename_i O;refine⟨O,?_⟩;split at h
   . rename_i b Q b1 x y hx;obtain⟨rfl,h⟩:=xcr q h;obtain⟨f1,f2⟩:=xDr hx;unfold istep;cases Q with
     |true=>
      have h:good (br b1 (force x λ x'=>putK s.tmps o.dst x' λ ts=>K ⟨ts,s.heap⟩) bad):=h
      obtain⟨rfl,h⟩:=xcr q h;rw[xdb,xen]at h;rw[f1 rfl rfl];exact h
     |false=>
      have h:good (force y λ x'=>putK s.tmps o.dst x' λ ts=>K ⟨ts,s.heap⟩):=h
      rw[xdb,xen]at h;rw[f2 rfl];exact h
   split at h
   case h_2=>exact(q h).elim
   rename_i b x H hx;obtain⟨rfl,h⟩:=xcr q h;rw[xdb,xen,xcb]at h;unfold istep;rw[xyP hx];exact h
 . rename_i hi;rw[if_neg hi]at h;split at h
   case h_2=>exact(q h).elim
   rename_i b x nb hx;obtain⟨rfl,h⟩:=xcr q h;rw[xdb,xen,xcb]at h;unfold fstep;rw[xyJ hx];exact h
variable {c:Call}
def xvb(q:¬ good bad)(O:xM1 P Inv E)(h:good (xcall E bad o c s K)):CallF P Inv s c o.dst (λ s'=>good (K s')):=by
 unfold xcall at h;split at h;case h_2=>exact(q h).elim
 rename_i g args J;split at h;case h_2=>exact(q h).elim
 rename_i b Q hm;have ⟨e1,h1⟩:=xcr q h;clear h;subst e1;rw[xbz]at h1;split at h1;case h_2=>exact(q h1).elim
 rename_i b2 r hr;have ⟨e2,h⟩:=xcr q h1;clear h1;subst e2;rw[xdb,xen,xcb,xEy hm]at h;exact xDd J (xla (xpy xNl) hm) (O.1 _ _ _ hr) h
def xHU{d:Option Tmp}{K:St->Prop}(h:CallF P Inv s c d K):CallK P Inv s c d K:=by obtain⟨s',h1,h2⟩:=h;exact⟨s',.inl h1,h2⟩
def xtt(q:¬ good bad)(Q:xM1 P Inv E)(h:good (xcallM E bad o c s K)):∃s',OpI0 P Inv s ⟨o.dst,.call c,0, "",#[],none⟩ s'/\good (K s'):=by
 unfold xcallM at h;split at h;case h_2=>exact(q h).elim
 rename_i g args O;simp only at h;generalize gather s.heap 1000 (refsOf.refsL args) []=ids at h;split at h;case h_2=>exact(q h).elim
 rename_i V;split at h;case h_2=>exact(q h).elim
 rename_i H0 J;rw[xbz,xcb]at h;split at h;case h_2=>exact(q h).elim
 rename_i b r0 H0' hr;obtain⟨rfl,h⟩:=xcr q h;rw[xdb,xen,xcb]at h;exact⟨_,.inr (.inl ⟨c,g,args,ids,H0,r0,H0',rfl,O,V,J,Q.2 _ _ _ _ _ hr,rfl⟩),h⟩
def xBg(q:¬ good bad)(J:xM1 P Inv E)(h:good (xcallU E bad o c s K)):CallK P Inv s c o.dst (λ s'=>good (K s')):=by
 unfold xcallU at h;split at h;case h_2=>exact(q h).elim
 split at h;rename_i n hn;split at h;case h_2=>exact(q h).elim
 rename_i bx hb;split at h;case h_2=>exact(q h).elim
 rename_i hC;obtain⟨O,h⟩:=xcr q h;rw[xcb]at h;obtain⟨s',h1,h2⟩:=xtt q J h;simp only[zf,Bool.not_eq_true']at hC;exact⟨s',.inr (.inr (.inl ⟨_,⟨n,bx,hb,hC.1,hC.2,O,rfl⟩,h1⟩)),h2⟩;obtain⟨s',h1,h2⟩:=xtt q J h;exact⟨s',.inr (.inl h1),h2⟩
def xLD(q:¬ good bad)(J:xM1 P Inv E)(h:good (xop P E bad true o s K)):stepA P Inv o s (λ s'=>good (K s')):=by
 have plain:good (xplain P E bad true o s K)->(if isImp o.op then istep P o s (λ s'=>good (K s'))else fstep P o s (λ s'=>good (K s'))):=λ h=>by have:=xum q h;split at this<;>rename_i hi;rw[if_pos hi];exact this.2;rw[if_neg hi];exact this
 unfold xop at h;unfold stepA;split at h;rename_i c a b ho;split at h;case h_2=>exact(q h).elim
 rename_i t ht;simp only[ho,ht];rw[xdb,xdb,xen,xen]at h;cases t with|true=>exact xyz (by simpa only[br]using h)|false=>exact xvW (by simpa only[br]using h)
 rename_i c ho;split at h;rename_i f hf;simp only[ho,hf];split at h;exact xBg q J h;exact xHU (xvb q J h);rename_i hne;have:=plain h;simp only[ho]at this|-;cases hc:c.callee<;>first|exact(hne _ hc).elim|exact this
 rename_i h1 h2;have:=plain h;cases ho:o.op<;>first|exact(h1 _ _ _ ho).elim|exact(h2 _ ho).elim|exact this|(rw[ho]at this;exact this)
def xHG(q:¬ good bad)(J:xM1 P Inv E)(h:good (xop P E bad false o s K)):stepF P Inv o s (λ s'=>good (K s')):=by
 have plain:good (xplain P E bad false o s K)->fstep P o s (λ s'=>good (K s')):=λ h=>by have:=xum q h;split at this<;>rename_i hi;exact absurd this.1 Ψ;exact this
 unfold xop at h;unfold stepF;split at h;rename_i c a b ho;split at h;case h_2=>exact(q h).elim
 rename_i t ht;simp only[ho,ht];rw[xdb,xdb,xen,xen]at h;cases t with|true=>exact xyz (by simpa only[br]using h)|false=>exact xvW (by simpa only[br]using h)
 rename_i c ho;split at h;rename_i f hf;simp only[ho,hf];split at h;exact(q h).elim;exact xvb q J h;rename_i hne;have:=plain h;simp only[ho]at this|-;cases hc:c.callee<;>first|exact(hne _ hc).elim|exact this
 rename_i h1 h2;have:=plain h;cases ho:o.op<;>first|exact(h1 _ _ _ ho).elim|exact(h2 _ ho).elim|exact this|(rw[ho]at this;exact this)
def xpf{H:List Box}{q:List AV}:∀{tl:List Nat}{ts:List AV}{ids:List Nat},stlAll H q tl=(true,ts,ids)->ts.length=q.length/\∀t,ts.getD t .top=q.getD t .top\/(resolve H xNl (q.getD t .top)=some (ts.getD t .top)/\∀id,id∈reach H xNl (q.getD t .top)->id∈ids)|[],ts,ids,h=>(by simp only[stlAll,zb,true_and]at h;obtain⟨rfl,rfl⟩:=h;exact⟨rfl,λ t=>.inl rfl⟩)|t::r,ts,ids,h=>by unfold stlAll at h;split at h;rename_i b J V h1;split at h;rename_i b' y W h2;simp only[zb,zf]at h;obtain⟨⟨rfl,rfl⟩,rfl,rfl⟩:=h;obtain⟨e1,e2⟩:=xpf h1;refine⟨by rw[y4,e1],λ k=>?_⟩;by_cases hk:k=t/\t<J.length;obtain⟨rfl,hl⟩:=hk;rw[xdQ hl];unfold stlV at h2;split at h2;rename_i id ver off len hx;split at h2;rename_i b y0 hr;simp only[zb]at h2;obtain⟨rfl,rfl,rfl⟩:=h2;rw[hx];refine .inr ⟨xpy xNl _ _ hr,λ i hi=>?_⟩;rw[xo9 xNl _ _ hr]at hi;exact List.mem_append_left _ hi;simp at h2;rename_i id ver off len hx;split at h2;rename_i b y0 hr;simp only[zb]at h2;obtain⟨rfl,rfl,rfl⟩:=h2;rw[hx];refine .inr ⟨xpy xNl _ _ hr,λ i hi=>?_⟩;rw[xo9 xNl _ _ hr]at hi;exact List.mem_append_left _ hi;simp at h2;simp only[zb,true_and]at h2;exact .inl h2.1.symm;(have:(J.set t y).getD k .top=J.getD k .top:=by by_cases O:k=t;subst O;rw[List.set_eq_of_length_le Ω];exact xdR (λ e=>O e.symm));rw[this];rcases e2 k with h|⟨h,h'⟩;exact .inl h;exact .inr ⟨h,λ id Q=>List.mem_append_right _ (h' id Q)⟩
def xD6(q:¬ good bad){tl:List Nat}(h:good (xset P E bad tl o s K)):∃s',OpA P Inv s o s'/\good (K s'):=by
 unfold xset at h;split at h;rename_i b O ids J;have ⟨hb,h1⟩:=xcr q h;clear h;subst hb;rw[xbz,xcb]at h1;split at h1
 . split at h1
   case h_2=>exact(q h1).elim
   rename_i b2 x H2 hx;have ⟨hb,h⟩:=xcr q h1;clear h1;subst hb;rw[xdb,xen,xcb]at h;obtain⟨e1,e2⟩:=xpf J;exact⟨_,.inr (.inr (.inr ⟨⟨O,freeze s.heap ids⟩,x,H2,⟨ids,rfl,e1,e2⟩,xyP hx,rfl⟩)),h⟩
 split at h1
 case h_2=>exact(q h1).elim
 rename_i b2 x nb hx;have ⟨hb,h⟩:=xcr q h1;clear h1;subst hb;rw[xdb,xen,xcb]at h;obtain⟨e1,e2⟩:=xpf J;exact⟨_,.inr (.inl (.inr (.inr ⟨⟨O,freeze s.heap ids⟩,x,nb,⟨ids,rfl,e1,e2⟩,xyJ hx,rfl⟩))),h⟩
def xw0(q:¬ good bad)(h:good (xfrz bad o s K)):∃s',OpF P Inv s o s'/\good (K s'):=by unfold xfrz at h;split at h;(case h_2=>exact(q h).elim);rename_i b x hx;obtain⟨hb,h'⟩:=xcr q h;subst hb;rw[xdb,xen]at h';exact⟨_,.inl ⟨x,none,.inr (xDo hx),rfl⟩,by simpa using h'⟩
def xBj(q:¬ good bad)(J:xM1 P Inv E)(h:good (xopS P E bad true o s K)):∃s',OpA P Inv s o s'/\good (K s'):=by
 unfold xopS at h;split at h
 . split at h
   . obtain⟨s',h1,h2⟩:=xw0 (P:=P) (Inv:=Inv) q h;exact⟨s',.inl h1,h2⟩
   . exact xBT (xLD q J h)
 . exact xD6 q h
def xKI(q:¬ good bad)(J:xM1 P Inv E)(h:good (xopS P E bad false o s K)):∃s',OpF P Inv s o s'/\good (K s'):=by unfold xopS at h;split at h;split at h;exact xw0 q h;exact xu3 (xHG q J h);exact(q h).elim
def xF4(q:¬ good bad)(J:xM1 P Inv E)(h:good (xopE P E bad o s K)):∃s',OpF P Inv s o s'/\good (K s'):=by unfold xopE at h;split at h;rename_i b x nb hx;have ⟨hb,h⟩:=xcr q h;subst hb;rw[xdb,xen,xcb]at h;exact⟨_,.inl ⟨x,nb,.inr (xDp hx),rfl⟩,h⟩;exact xu3 (xHG q J h)
def xKH(q:¬ good bad)(J:xM1 P Inv E)(h:good (xopL P E bad o s K)):∃s',OpF P Inv s o s'/\good (K s'):=by unfold xopL at h;split at h;(rename_i b Q b1 x y hx;obtain⟨rfl,h⟩:=xcr q h;obtain⟨f1,f2⟩:=xDs (nid:=s.heap.length) hx;cases Q with|true=>(have h2:good (br b1 (force x λ x'=>putK s.tmps o.dst x' λ ts=>K ⟨ts,s.heap⟩) bad):=h;obtain⟨O,h3⟩:=xcr q h2;rw[xdb,xen]at h3;exact⟨_,.inl ⟨x,none,.inr (f1 rfl O),rfl⟩,by simpa using h3⟩)|false=>have h2:good (force y λ x'=>putK s.tmps o.dst x' λ ts=>K ⟨ts,s.heap⟩):=h;rw[xdb,xen]at h2;exact⟨_,.inl ⟨y,none,.inr (f2 rfl),rfl⟩,by simpa using h2⟩);split at h;exact xF4 q J h;exact xKI q J h
variable {ops:Array Oper}
def xiz(Q:¬ good bad){J:Option Bool}{Step:St->Oper->St->Prop}(q:∀o s(K:St->T),good (xopM P E bad J o s K)->∃s',Step s o s'/\good (K s')):
  ∀(l:List Oper)(s:St)(K:St->T),good (xOps P E bad J ops l s K)->∃s',Path Step ops l s s'/\good (K s')
 |[],s,K,h=>⟨s,.nil s,h⟩
 |o::rest,s,K,h=>by
  have run:∀s:St,xNc ops s.tmps o=some true->good (xopM P E bad J o s λ s'=>xOps P E bad J ops rest s' K)->∃s',Path Step ops (o::rest) s s'/\good (K s'):=λ s hg h=>by
   obtain⟨s1,h1,h2⟩:=q _ _ _ h;obtain⟨s2,h3,h4⟩:=xiz Q q rest s1 K h2;exact⟨s2,.run hg h1 h3,h4⟩
  have skip:∀s:St,xNc ops s.tmps o=some false->good (putK s.tmps o.dst (.tuple []) λ ts=>xOps P E bad J ops rest ⟨ts,s.heap⟩ K)->∃s',Path Step ops (o::rest) s s'/\good (K s'):=λ s hg h=>by
   rw[xen]at h;obtain⟨s2,h3,h4⟩:=xiz Q q rest _ K h;exact⟨s2,.skip hg h3,h4⟩
  unfold xOps xguard at h;split at h
  . rename_i hg;exact run s (by simp[xNc,hg]) h
  . rename_i j O hg;split at h
    . rename_i hd;refine skip s ?_ h;have:(ops[j]?).bind (·.dst)=none:=hd;simp[xNc,hg,ayield,this]
    . rename_i d hd;have hd':(ops[j]?).bind (·.dst)=some d:=hd;split at h
      . rename_i ht;refine skip s ?_ h;simp[xNc,hg,ayield,hd',ht]
      . rename_i t ht;have V:xNc ops s.tmps o=some (t==O):=by simp[xNc,hg,ayield,hd',ht]
        cases t with
        |true=>
         simp only[br]at h;rw[xoY,xs2 ht]at h;cases O with
         |true=>exact run s V h
         |false=>exact skip s V h
        |false=>
         simp only[br]at h;rw[xoY,xs2 ht]at h;cases O with
         |true=>exact skip s V h
         |false=>exact run s V h
      . rename_i vs ht;refine skip s ?_ h;simp[xNc,hg,ayield,hd',ht]
      . exact(Q h).elim
def xiG(q:¬ good bad)(V:xM1 P Inv E){m:Nat}:
  ∀(l:List Oper)(k:Nat)(s:St)(K:St->T),good (xTail P E bad ops m k l s K)->∃s',TPath P Inv ops m k l s s'/\good (K s')
 |[],k,s,K,h=>⟨s,.nil k s,h⟩
 |o::rest,k,s,K,h=>by
  have O:∀(s:St)(K:St->T),good (xopS P E bad true o s K)->∃s',OpA P Inv s o s'/\good (K s'):=λ s K h=>xBj q V h
  unfold xTail at h;split at h
  . rename_i hml;have run:∀s:St,xNc ops s.tmps o=some true->good (xopS P E bad true o s λ s'=>xTail P E bad ops m (k+1) rest s' K)->∃s',TPath P Inv ops m k (o::rest) s s'/\good (K s'):=λ s hg h=>by
     obtain⟨s1,h1,h2⟩:=O _ _ h;obtain⟨s2,h3,h4⟩:=xiG q V rest (k+1) s1 K h2;exact⟨s2,.run [] hml.symm hg h1 h3,h4⟩
    have skip:∀s:St,xNc ops s.tmps o=some false->good (putK s.tmps o.dst (.tuple []) λ ts=>xTail P E bad ops m (k+1) rest ⟨ts,s.heap⟩ K)->∃s',TPath P Inv ops m k (o::rest) s s'/\good (K s'):=λ s hg h=>by
     rw[xen]at h;obtain⟨s2,h3,h4⟩:=xiG q V rest (k+1) _ K h;exact⟨s2,.skip [] hml.symm hg h3,h4⟩
    unfold xguard at h;split at h
    . rename_i hg;exact run s (by simp[xNc,hg]) h
    . rename_i j J hg;split at h
      . rename_i hd;refine skip s ?_ h;have:(ops[j]?).bind (·.dst)=none:=hd;simp[xNc,hg,ayield,this]
      . rename_i d hd;have hd':(ops[j]?).bind (·.dst)=some d:=hd;split at h
        . rename_i ht;refine skip s ?_ h;simp[xNc,hg,ayield,hd',ht]
        . rename_i t ht;have Q:xNc ops s.tmps o=some (t==J):=by simp[xNc,hg,ayield,hd',ht]
          cases t with
          |true=>
           simp only[br]at h;rw[xoY,xs2 ht]at h;cases J with
           |true=>exact run s Q h
           |false=>exact skip s Q h
          |false=>
           simp only[br]at h;rw[xoY,xs2 ht]at h;cases J with
           |true=>exact skip s Q h
           |false=>exact run s Q h
        . rename_i vs ht;refine skip s ?_ h;simp[xNc,hg,ayield,hd',ht]
        . exact(q h).elim
  . rename_i d ds hml;split at h
    case h_2=>exact(q h).elim
    rename_i hg;rw[xbz]at h;obtain⟨s1,h1,h2⟩:=O _ _ h;rw[xbz]at h2;obtain⟨s2,h3,h4⟩:=xiG q V rest (k+1) _ K h2;exact⟨s2,.run (d::ds) hml.symm (by simp[xNc,hg]) h1 h3,h4⟩
variable {id:Nat}
def xu9(W:P.follows .mixedOrders)(O:InvOk Inv)(q:¬ good bad)(J:xM1 P Inv E){V:Bool}{K:Exit->St->T}(h:good (xReg1 P E bad ops V s (K .normal))):Does P Inv (.region id ops V) (λ e s'=>good (K e s')) s:=by
 have hA:∀o s(K:St->T),good (xopM P E bad (some true) o s K)->∃s',OpA P Inv s o s'/\good (K s'):=λ o s K h=>xBj q J h;have hF:∀o s(K:St->T),good (xopM P E bad (some false) o s K)->∃s',OpF P Inv s o s'/\good (K s'):=λ o s K h=>xKH q J h;have hE:∀o s(K:St->T),good (xopM P E bad none o s K)->∃s',OpF P Inv s o s'/\good (K s'):=λ o s K h=>xF4 q J h;unfold xReg1 at h;split at h;case h_1=>exact(q h).elim
 rename_i Q;cases V with|false=>(simp only[zT,if_false]at h;obtain⟨s',h1,h2⟩:=xiz q hA _ _ _ h;exact xs1 O Q h1 h2)|true=>
 simp only[if_true]at h;split at h;rename_i hc;simp only[zf,zl]at hc;obtain⟨s1,h1,h⟩:=xiz q hF _ _ _ h;obtain⟨s2,h2,h⟩:=xiG q J _ _ _ _ h;exact xs0 W O _ Q hc.2 hc.1 h1 h2 xv7 h;split at h;rename_i hc;simp only[zf,zl]at hc;obtain⟨s1,h1,h⟩:=xiz q hE _ _ _ h;obtain⟨s2,h2,h⟩:=xiG q J _ _ _ _ h;exact xs0 W O _ Q hc.2 hc.1 h1 h2 xv7 h;split at h;rename_i hc;simp only[zf,zl]at hc;obtain⟨s1,h1,h⟩:=xiz q hF _ _ _ h;split at h;case h_2=>exact(q h).elim
 rename_i Y;obtain⟨s2,h2,h⟩:=xiG q J _ _ _ _ h;exact xs0 W O _ Q hc.2 hc.1 h1 h2 (xuX Y) h;split at h;case isFalse=>exact(q h).elim
 rename_i hc;simp only[zf,zl]at hc;obtain⟨s1,h1,h⟩:=xiz q hF _ _ _ h;split at h;case h_2=>exact(q h).elim
 rename_i Y;obtain⟨s2,h2,h⟩:=xiG q J _ _ _ _ h;exact xs0 W O _ Q hc.2 hc.1 h1 h2 (xuX Y) h
def xDY{c:Code}{Q:Exit->St->Prop}{s1:St}(J:Settled s s1)(h:Does P Inv c Q s1):Does P Inv c Q s:=λ w0 A0 w A M a Qc hI hp hs hQ ro q=>by obtain⟨A1,h1,_⟩:=hs.settle J;exact h w0 A0 w A1 M a Qc hI hp h1 hQ ro q
def xva(Q:P.follows .mixedOrders)(O:InvOk Inv)(q:¬ good bad)(V:xM1 P Inv E){K:Exit->St->T}(h:good (xReg2 P E bad ops J s (K .normal))):Does P Inv (.region id ops J) (λ e s'=>good (K e s')) s:=by unfold xReg2 at h;split at h;exact xu9 Q O q V h;split at h;rename_i b Y ids W;have ⟨hb,h1⟩:=xcr q h;subst hb;rw[xbz,xcb]at h1;obtain⟨e1,e2⟩:=xpf W;exact xDY ⟨ids,rfl,e1,e2⟩ (xu9 Q O q V h1)
def xD5(Q:P.follows .mixedOrders)(O:InvOk Inv)(q:¬ good bad)(V:xM1 P Inv E){K:Exit->St->T}(h:good (xReg P E bad ops J s (K .normal))):Does P Inv (.region id ops J) (λ e s'=>good (K e s')) s:=by unfold xReg at h;split at h;exact xva Q O q V h;rename_i c cs _;split at h;rename_i W H1 hc;rw[xbz,xcb]at h;refine xjE (s':=⟨W,H1⟩) (λ w0 A0 w A M a _ hs=>?_) (xva Q O q V h);obtain⟨A1,M1,h1⟩:=SR.convs (c::cs) hs;rw[hc]at h1;exact⟨A1,M1,h1⟩
variable {R:St->(Exit->St->T)->T}
def xB0(q:¬ good bad){c:Code}(hR:∀s(K:Exit->St->T),good (R s K)->Does P Inv c (λ e s'=>good (K e s')) s){n:Nat}{K:Exit->St->T}(h:good (xloop bad R n s K)):Does P Inv (.loop c) (λ e s'=>good (K e s')) s:=xFR (λ n s=>good (xloop bad R n s K)) (Weak.refl _ _) h λ n s hs=>by cases n with|zero=>exact(q hs).elim|succ n=>refine xdj (hR s _ hs) λ e s' h=>?_;cases e with|normal=>exact⟨n,s',Nat.lt_succ_self n,Weak.refl _ _,h⟩|_=>exact h
variable {lp:Lp}
def xul(O:Inv.pin=E.pin)(q:¬ good bad){K:Exit->St->T}{F:T}(h:good (xpiece E bad lp s K F)):good F\/∃vals H0 r,lp.run vals H0=some (true,r)/\Weak Inv.pin s ⟨mkTs E.nt (lp.live.zip vals),H0⟩/\good (K r.eval.1 ⟨mkTs E.nt (lp.liveO.zip r.eval.2.1),r.eval.2.2⟩):=by
 unfold xpiece at h;split at h;case h_2=>exact .inl h
 rename_i vals H0 Q;rw[xbz,xcb]at h;split at h;case h_2=>exact .inl h
 rename_i b r V;have ⟨h0,h1⟩:=xcr q h;clear h;have ⟨hb,h⟩:=xcr q h1;clear h1;subst hb;have h:=LR.run_good h;rw[xbz,xcb]at h;have J:=zg h0;have hw:=xhY Q;rw[<-O,J]at hw;exact .inr ⟨vals,H0,r,V,hw,h⟩
def xrn(J:Inv.pin=E.pin)(q:¬ good bad){d:Code}(O:PieceOk P Inv E.nt d lp){K:Exit->St->T}(h:good (xpiece E bad lp s K bad)):Does P Inv d (λ e s'=>good (K e s')) s:=by rcases xul J q h with h|⟨vals,H0,r,h1,h2,h3⟩;exact(q h).elim;exact xjE h2 (xdj (O _ _ _ h1) λ e1 s1⟨g1,g2⟩=>by rw[g1,g2];exact h3)
def xvc(J:Inv.pin=E.pin)(q:¬ good bad){c:Code}(O:LoopOk P Inv E.nt c lp)(hR:∀s(K:Exit->St->T),good (R s K)->Does P Inv c (λ e s'=>good (K e s')) s):∀(n:Nat)(s:St)(K:Exit->St->T),good (xpeel E bad lp R n s K)->DoesL P Inv c (λ e s'=>good (K e s')) s|0,s,K,h=>(by rcases xul J q h with h|⟨vals,H0,r,h1,h2,h3⟩;exact(q h).elim;exact xv2 h2 (xzf (O _ _ _ h1) λ e1 s1⟨g1,g2⟩=>by rw[g1,g2];exact h3))|n+1,s,K,h=>by rcases xul J q h with h|⟨vals,H0,r,h1,h2,h3⟩;refine xDX (xdj (hR s _ h) λ e s' h=>?_);(cases e with|normal=>exact xvc J q O hR n s' K h|_=>exact h);exact xv2 h2 (xzf (O _ _ _ h1) λ e1 s1⟨g1,g2⟩=>by rw[g1,g2];exact h3)
def xf8(Q:P.follows .mixedOrders)(O:InvOk Inv)(J:Inv.pin=E.pin)(q:¬ good bad)(V:xM1 P Inv E):∀(c:Code)(s:St)(K:Exit->St->T),LoOk P Inv E c->good (X P E bad c s K)->Does P Inv c (λ e s'=>good (K e s')) s
 |.skip,s,K,_,h=>xvH h
 |.region id ops draw,s,K,_,h=>xD5 Q O q V h
 |.seq a b,s,K,hl,h=>by
  unfold X at h;split at h;rename_i hr;split at h;rename_i lp W;exact xrn J q (hl.2 (.seq a b) (by simp[xNg,hr]) lp W) h;exact(q h).elim;rename_i hr;exact xhM (xdj (xf8 Q O J q V a s _ (hl.sub (fun l hm=>by simp [xNk,hr,hm]) (fun l hm=>by simp [xNg,hr,hm])) h) fun e s' hq=>by
   cases e with
   | normal=>exact xf8 Q O J q V b s' K (hl.sub (λ l hm=>by simp[xNk,hr,hm]) (λ l hm=>by simp[xNg,hr,hm])) hq
   | _=>exact hq)
 |.cond c a b,s,K,hl,h=>by unfold X at h;split at h;rename_i lp W;exact xrn J q (hl.2 (.cond c a b) (by simp[xNg]) lp W) h;split at h;(case h_2=>exact(q h).elim);rename_i t ht;refine xsx ht (λ e=>?_) (λ e=>?_);subst e;change good (xknow E c true s λ s=>X P E bad a s K)at h;rw[xBi ht]at h;exact xf8 Q O J q V a s K (hl.sub (λ l hm=>by simp[xNk,hm]) (λ l hm=>by simp[xNg,hm])) h;subst e;change good (xknow E c false s λ s=>X P E bad b s K)at h;rw[xBi ht]at h;exact xf8 Q O J q V b s K (hl.sub (λ l hm=>by simp[xNk,hm]) (λ l hm=>by simp[xNg,hm])) h
 |.block id c,s,K,hl,h=>
  xuc (xdj (xf8 Q O J q V c s _ (hl.sub (fun l hm=>by simpa [xNk] using hm) (fun l hm=>by simpa [xNg] using hm)) h) fun e s' hq=>by
   cases e with
   | exit id'=>
    simp only[blockQ];split
    . rename_i Y;simp only[Y,if_true]at hq;exact hq
    . rename_i Y;simp only[Y,if_false]at hq;exact hq
   | _=>exact hq)
 |.loop c,s,K,hl,h=>by unfold X at h;split at h;rename_i lp W;exact xyn (xvc J q (hl.1 c (by simp[xNk]) lp W) (λ s K h=>xf8 Q O J q V c s K (hl.sub (λ l hm=>by simp[xNk,hm]) (λ l hm=>by simp[xNg,hm])) h) _ _ _ h);exact xB0 q (λ s K h=>xf8 Q O J q V c s K (hl.sub (λ l hm=>by simp[xNk,hm]) (λ l hm=>by simp[xNg,hm])) h) h
 |.exit id,s,K,_,h=>xAX h
 |.ret,s,K,_,h=>xCQ h
 |.rangeFunc g ps a b,s,K,hl,h=>by unfold X at h;split at h;rename_i lp W;exact xrn J q (hl.2 (.rangeFunc g ps a b) (by simp[xNg]) lp W) h;exact(q h).elim
 |.scope _,s,K,_,h=>(q (by simpa[X]using h)).elim
 |.label _,s,K,_,h=>(q (by simpa[X]using h)).elim
 |.goto _,s,K,_,h=>(q (by simpa[X]using h)).elim
 |.refuse _,s,K,_,h=>(q (by simpa[X]using h)).elim
end sound
def resValC(P:Program)(ls:TypeId->Bool)(s:St):ResultVar->Option (Bool×AV)|.tmp t=>some (true,s.tmps.getD t .top)|.cell a t=>match xM0 P t with|some ti=>loadAtC P ls t s.heap ti (s.tmps.getD a .top)|none=>none
def xua{ls:TypeId->Bool}{r:ResultVar}{x:AV}(hx:resValC P ls s r=some (true,x)):resVal P s r=some x:=by cases r with|tmp t=>simpa[resValC,resVal]using hx|cell a t=>simp only[resValC]at hx;simp only[resVal];split at hx;(case h_2=>simp at hx);rename_i ti q;simp only[q];exact xtX hx
def resAllC(P:Program)(ls:TypeId->Bool)(s:St):List ResultVar->Option (Bool×List AV)|[]=>some (true,[])|r::rs=>match resValC P ls s r with|some (b,x)=>(match resC s.heap xNl x with|some (b',y)=>(match resAllC P ls s rs with|some (b'',ys)=>some (b&&(b'&&b''),y::ys)|none=>none)|none=>none)|none=>none
def xq7{ls:TypeId->Bool}:∀{rs:List ResultVar}{ys:List AV},resAllC P ls s rs=some (true,ys)->resAll P s rs=some ys
 |[],ys,h=>by simp only[resAllC,z6,zb,true_and]at h;subst h;rfl
 |r::rs,ys,h=>by
  unfold resAllC at h;split at h
  case h_2=>simp at h
  rename_i b x hx;split at h
  case h_2=>simp at h
  rename_i b' y hy;split at h
  case h_2=>simp at h
  rename_i q zs hz;simp only[z6,zb,zf]at h;obtain⟨⟨rfl,rfl,rfl⟩,rfl⟩:=h;unfold resAll;simp only[xua hx,xq7 hz,xpy _ _ _ hy]
def finK(P:Program)(ls:TypeId->Bool)(rs:List ResultVar)(s:St):Option AV:=match resAllC P ls s rs with|some (b,xs)=>br b (xNV xs λ ys=>some (xNi ys)) none|none=>none
def endK(P:Program)(ls:TypeId->Bool)(rs:List ResultVar):Exit->St->Option AV|.ret,s=>finK P ls rs s|.normal,s=>finK P ls rs s|_,_=>none
def XF(P:Program)(E:Env)(fn:Func)(c:Code)(args:List AV):Option AV:=xNV (args++List.replicate (fn.ntmps - args.length) (.tuple [])) λ ts=>X P E none c ⟨ts,[]⟩ (endK P E.ls fn.results.toList)
variable {args:List AV}
def xDt{E:Env}(V:P.follows .mixedOrders)(O:InvOk Inv)(Q:Inv.pin=E.pin)(W:xM1 P Inv E){f:FuncId}{fn:Func}{r:AV}(hf:P.funcs[f]?=some fn)(hb:fn.body=some c)(q:(fn.name == "runtime.NumGoroutine")=false)(hl:LoOk P Inv E c)(h:XF P E fn c args=some r):Good P Inv f args r:=by refine xCm O hf hb q ?_;unfold XF at h;rw[xbz]at h;refine xdj (xf8 (good:=λ t=>t=some r) V O Q Ψ W c _ _ hl h) λ e s hq=>?_;(have J:∀s,finK P E.ls fn.results.toList s=some r->resultOf P fn.results.toList s=some r:=λ s h=>by unfold finK at h;split at h;(case h_2=>simp at h);rename_i b xs hx;obtain⟨rfl,h⟩:=xcr (good:=λ t=>t=some r) Ψ h;rw[xbz]at h;unfold resultOf;rw[xq7 hx];exact h);cases e with|ret=>exact⟨.inl rfl,J s hq⟩|normal=>exact⟨.inr rfl,J s hq⟩|_=>simp[endK]at hq
def resAllM(P:Program)(s:St):List ResultVar->Option (List AV)|[]=>some []|r::rs=>match resVal P s r with|some x=>(match resAllM P s rs with|some xs=>some (x::xs)|none=>none)|none=>none
variable {M:Id->Option MB}{a:Act}{w0:World}
def xux{w:World}{A0:Cx}{A:Nat->Prop}(hs:SR w0 A0 w A M s a):∀{rs:List ResultVar}{xs:List AV},resAllM P s rs=some xs->
  ∃vs,(rs.mapM (resF a.tmps)).run P w=.ok vs w/\RC w A M vs xs
 |[],xs,h=>by
  simp only[resAllM,z6]at h;subst h;exact⟨[],by simp,rfl,by simp⟩
 |r::rs,xs,h=>by
  unfold resAllM at h;split at h
  case h_2=>simp at h
  rename_i x hx;split at h
  case h_2=>simp at h
  rename_i ys O;cases h;obtain⟨v,hv,J⟩:=xwG hs hx;obtain⟨vs,Q,q⟩:=xux hs O;refine⟨v::vs,?_,by simp[q.1],λ i hi=>?_⟩
  . rw[List.mapM_cons];simp only[Sem.run_bind,hv,Q,Result.andThen_ok,Sem.run_pure]
  . cases i with
    |zero=>simpa using J
    |succ i=>have:=q.2 i (by simp at hi;omega);simpa using this
def xob{w:World}{A0:Cx}{A:Nat->Prop}(hs:SR w0 A0 w A M s a){fn:Func}(h:resAllM P s fn.results.toList=some xs):∃v,(results fn a.tmps).run P w=.ok v w/\Rel w A M v (xNi xs):=by obtain⟨vs,J,q⟩:=xux (P:=P) hs h;refine⟨if h:vs.toArray.size=1 then vs.toArray[0]else .tuple vs.toArray,?_,?_⟩;rw[xwH,Array.mapM_eq_mapM_toList];simp only[Sem.run_bind,Sem.run_map,J,Result.andThen_ok,Sem.run_pure];have hl:=q.1;have hr:=q.2;match vs,xs,hl,hr with|[v],[x],_,hr=>simpa[xNi]using hr 0 Ψ|[],[],_,_=>simpa[xNi]using Rel.tuple (w:=w) (A:=A) (M:=M) #[] [] rfl Ψ|v1::v2::vs,x1::x2::xs,hl,hr=>(have hne:¬ (v1::v2::vs).toArray.size=1:=by simp);rw[dif_neg hne];simp only[xNi];refine .tuple _ _ (by simpa using hl) λ i hi=>?_;rw[xhi];exact hr i hi
variable {H':List Box}
def xGJ(ac:InvOk Inv){f:FuncId}{fn:Func}{r:AV}(hf:P.funcs[f]?=some fn)(hb:fn.body=some c)(Q:(fn.name == "runtime.NumGoroutine")=false)(ab:H.length=Inv.pin)(h:Does P Inv c (λ e s=>(e=.ret\/e=.normal)/\∃xs ids,resAllM P s fn.results.toList=some xs/\nodupB ids/\pinsOk Inv.pin 0 ids/\normH Inv.pin (normF Inv.pin ids s.heap) s.heap 0 ids=some H'/\ren (normF Inv.pin ids s.heap) (xNi xs)=r) ⟨args++List.replicate (fn.ntmps - args.length) (.tuple []),H⟩):GoodM P Inv f args H r H':=by
 refine⟨⟨fn,hf,by rw[hb];rfl,Q⟩,λ w0 w A M vs hI O hR J=>?_⟩;refine callsIn_wide.1 (callsIn_of_wp_marks (F:=Fence.wide) (n:=0) hf hb trivial ?_);refine h w0 ⟨A,w,A,M,H.length,λ _=>False⟩ w A M _ _ hI (by simp only[];omega) ⟨O,λ _ _=>Iff.rfl,?_,λ t ht=>?_,hR,DefOk.nil,Ev.refl (C:=⟨A,w,A,M,H.length,λ _=>False⟩)⟩ ?_ none (λ _=>rfl);simp[J.1];simp only[z8,List.length_replicate]at ht;have hl:=J.1;by_cases V:t<args.length;have e1:(vs.toArray++Array.replicate (fn.ntmps - vs.toArray.size) undef).getD t undef=vs.getD t undef:=by(have:t<vs.length:=Ω);simp[z7,Array.getElem?_append,this]
 have e2:(args++List.replicate (fn.ntmps - args.length) (AV.tuple [])).getD t .top=args.getD t .top:=by simp[z7,zP,V]
 rw[e1,e2];exact J.2 t V;have h1:¬ t<vs.length:=Ω
 have e1:(vs.toArray++Array.replicate (fn.ntmps - vs.toArray.size) undef).getD t undef=undef:=by(have h2:t - vs.length<fn.ntmps - vs.length:=Ω);simp[Array.getElem?_append,h1,h2]
 have e2:(args++List.replicate (fn.ntmps - args.length) (AV.tuple [])).getD t .top=.tuple []:=by(have h2:t - args.length<fn.ntmps - args.length:=Ω);simp[z7,zP,V,h2]
 rw[e1,e2];exact .tuple #[] [] rfl Ψ;rintro e s' a' w' ⟨he,xs,ids,hx,Y,aa,Z,rfl⟩ ⟨A',M',q⟩;have:LeavesInM Fence.wide 0 P fn a'.tmps (λ e w'=>∃v A' M',e=.returned v/\Below w0.heap.size w0 w'/\(∀b,b<w0.heap.size->(A' b↔A b))/\Ev ⟨A,w,A,M,H.length,λ _=>False⟩ w' A' M'/\HR w' A' M' w0.heap.size H'/\Rel w' A' M' v (ren (normF Inv.pin ids s'.heap) (xNi xs))) a'.defers .returning w':=xpl (λ _ h=>h) q λ w' q=>by obtain⟨v,hv,W⟩:=xob (P:=P) q hx;obtain⟨M2,g1,g2,g3,g4⟩:=q.heap.norm Y aa Z;exact⟨v,hv,v,A',M2,rfl,q.base,q.outer,q.ev.norm (by simp only[];omega) g3 g4,g1,W.ren g2⟩
 rcases he with rfl|rfl<;>exact this
def resAllMC(P:Program)(ls:TypeId->Bool)(s:St):List ResultVar->Option (Bool×List AV)|[]=>some (true,[])|r::rs=>match resValC P ls s r with|some (b,x)=>(match resAllMC P ls s rs with|some (b',xs)=>some (b&&b',x::xs)|none=>none)|none=>none
def xtm{ls:TypeId->Bool}:∀{rs:List ResultVar}{ys:List AV},resAllMC P ls s rs=some (true,ys)->resAllM P s rs=some ys
 |[],ys,h=>by simp only[resAllMC,z6,zb,true_and]at h;subst h;rfl
 |r::rs,ys,h=>by
  unfold resAllMC at h;split at h
  case h_2=>simp at h
  rename_i b x hx;split at h
  case h_2=>simp at h
  rename_i b' zs hz;simp only[z6,zb,zf]at h;obtain⟨⟨rfl,rfl⟩,rfl⟩:=h;unfold resAllM;simp only[xua hx,xtm hz]
def finM(P:Program)(pin:Nat)(ls:TypeId->Bool)(rs:List ResultVar)(s:St):Option (AV×List Box):=match resAllMC P ls s rs with|some (b,xs)=>(br b (match nodupB (gather s.heap 1000 (List.range pin++refsOf.refsL xs) [])&&pinsOk pin 0 (gather s.heap 1000 (List.range pin++refsOf.refsL xs) []) with|true=>(match normH pin (normF pin (gather s.heap 1000 (List.range pin++refsOf.refsL xs) []) s.heap) s.heap 0 (gather s.heap 1000 (List.range pin++refsOf.refsL xs) [])with|some H'=>force (ren (normF pin (gather s.heap 1000 (List.range pin++refsOf.refsL xs) []) s.heap) (xNi xs)) λ r=>xNu H' λ H'=>some (r,H')|none=>none)|false=>none) none)|none=>none
def endM(P:Program)(pin:Nat)(ls:TypeId->Bool)(rs:List ResultVar):Exit->St->Option (AV×List Box)|.ret,s=>finM P pin ls rs s|.normal,s=>finM P pin ls rs s|_,_=>none
def XFM(P:Program)(E:Env)(fn:Func)(c:Code)(args:List AV)(H:List Box):Option (AV×List Box):=xNV (args++List.replicate (fn.ntmps - args.length) (.tuple [])) λ ts=>X P E none c ⟨ts,H⟩ (endM P E.pin E.ls fn.results.toList)
def xAn{E:Env}(V:P.follows .mixedOrders)(Q:InvOk Inv)(q:Inv.pin=E.pin)(Y:xM1 P Inv E){f:FuncId}{fn:Func}{r:AV}(hH:H.length=E.pin)(hf:P.funcs[f]?=some fn)(hb:fn.body=some c)(J:(fn.name == "runtime.NumGoroutine")=false)(hl:LoOk P Inv E c)(h:XFM P E fn c args H=some (r,H')):GoodM P Inv f args H r H':=by refine xGJ Q hf hb J (by rw[hH,q]) ?_;unfold XFM at h;rw[xbz]at h;refine xdj (xf8 (good:=λ t=>t=some (r,H')) V Q q Ψ Y c _ _ hl h) λ e s hq=>?_;(have O:∀s,finM P E.pin E.ls fn.results.toList s=some (r,H')->∃xs ids,resAllM P s fn.results.toList=some xs/\nodupB ids/\pinsOk Inv.pin 0 ids/\normH Inv.pin (normF Inv.pin ids s.heap) s.heap 0 ids=some H'/\ren (normF Inv.pin ids s.heap) (xNi xs)=r:=λ s h=>by unfold finM at h;split at h;(case h_2=>simp at h);rename_i b xs hx;have ⟨Z,h1⟩:=xcr (good:=λ t=>t=some (r,H')) Ψ h;clear h;have h:=h1;clear h1;subst Z;generalize aa:gather s.heap 1000 (List.range E.pin++refsOf.refsL xs) []=ids at h;split at h;(case h_2=>simp at h);rename_i hc;simp only[zf]at hc;split at h;(case h_2=>simp at h);rename_i H1 W;rw[xdb,xcb]at h;cases h;rw[q];exact⟨xs,ids,xtm hx,hc.1,hc.2,W,rfl⟩);cases e with|ret=>exact⟨.inl rfl,O s hq⟩|normal=>exact⟨.inr rfl,O s hq⟩|_=>simp[endM]at hq
def iterN{σ ρ:Type}(step:σ->Option (σ⊕ρ)):Nat->σ->Option ρ|0,_=>none|n+1,s=>match step s with|some (.inl s')=>iterN step n s'|some (.inr r)=>some r|none=>none
open Classical in
noncomputable def Iter{σ ρ:Type}(step:σ->Option (σ⊕ρ))(s:σ):Option ρ:=
 if h:∃r n,iterN step n s=some r then some h.choose else none
def xsJ{σ ρ:Type}{step:σ->Option (σ⊕ρ)}:∀{n m:Nat}{s:σ}{r:ρ},iterN step n s=some r->n<=m->iterN step m s=some r|0,_,_,_,h,_=>by simp[iterN]at h|n+1,0,_,_,_,hm=>by omega|n+1,m+1,s,r,h,hm=>by simp only[iterN]at h|-;cases hs:step s with|none=>rw[hs]at h;simp at h|some x=>rw[hs]at h;cases x with|inl s'=>exact xsJ (n:=n) h Ω|inr r'=>exact h
def xqM{σ ρ:Type}{step:σ->Option (σ⊕ρ)}{s:σ}{r:ρ}:Iter step s=some r↔∃n,iterN step n s=some r:=by unfold Iter;constructor;intro h;split at h;rename_i q;obtain⟨n,hn⟩:=q.choose_spec;simp only[z6]at h;exact⟨n,by rw[hn,h]⟩;simp at h;rintro⟨n,hn⟩;have q:∃r n,iterN step n s=some r:=⟨r,n,hn⟩;rw[dif_pos q];obtain⟨n',J⟩:=q.choose_spec;have h1:=xsJ hn (Nat.le_max_left n n');have h2:=xsJ J (Nat.le_max_right n n');rw[h1]at h2;exact h2.symm
def xak{σ ρ:Type}{step:σ->Option (σ⊕ρ)}{s s':σ}(h:step s=some (.inl s')):Iter step s=Iter step s':=by apply Option.ext;intro r;rw[xqM,xqM];constructor;(rintro⟨n,hn⟩;cases n with|zero=>simp[iterN]at hn|succ n=>simp only[iterN,h]at hn;exact⟨n,hn⟩);rintro⟨n,hn⟩;exact⟨n+1,by simp only[iterN,h];exact hn⟩
def xac{σ ρ:Type}{step:σ->Option (σ⊕ρ)}{s:σ}{r:ρ}(h:step s=some (.inr r)):Iter step s=some r:=xqM.2 ⟨1,by simp only[iterN,h]⟩
def xAY(h:Does P Inv c (λ e s1=>∃s',Weak Inv.pin s1 s'/\Q e s') s):Does P Inv c Q s:=λ w0 A0 w A M a Qc hI hp hs hQ=>h w0 A0 w A M a Qc hI hp hs λ e s1 a' w'⟨s',hw,hq⟩⟨A',M',hs'⟩=>by obtain⟨A'',M'',q⟩:=hw w0 A0 w' A' M' a' hp hs';exact hQ e s' a' w' hq ⟨A'',M'',q⟩
def xFP(h:DoesL P Inv c (λ e s1=>∃s',Weak Inv.pin s1 s'/\Q e s') s):DoesL P Inv c Q s:=λ w0 A0 w A M a Qc hI hp hs hQ=>h w0 A0 w A M a Qc hI hp hs λ e s1 a' w'⟨s',hw,hq⟩⟨A',M',hs'⟩=>by obtain⟨A'',M'',q⟩:=hw w0 A0 w' A' M' a' hp hs';exact hQ e s' a' w' hq ⟨A'',M'',q⟩
def XR(P:Program)(E:Env)(live liveO:List Nat)(conv:List (Nat×Nat×TypeId))(c:Code)(vals:List AV)(H:List Box):Option (Exit×List AV×List Box):=xNV (mkTs E.nt (live.zip vals)) λ ts=>X P E none c ⟨ts,H⟩ λ e s'=>match e with|.normal=>(match normS E.pin conv live s' with|some (vs,H')=>xNV vs λ vs=>xNu H' λ H'=>br (Nat.beq s'.tmps.length E.nt) (some (.normal,vs,H')) none|none=>none)|e=>match normS E.pin [] liveO s' with|some (vs,H')=>xNV vs λ vs=>xNu H' λ H'=>br (Nat.beq s'.tmps.length E.nt) (some (e,vs,H')) none|none=>none
def XC(P:Program)(E:Env)(live liveO:List Nat)(c:Code)(vals:List AV)(H:List Box):Option (Exit×List AV×List Box):=xNV (mkTs E.nt (live.zip vals)) λ ts=>X P E none c ⟨ts,H⟩ λ e s'=>match normS E.pin [] liveO s' with|some (vs,H')=>xNV vs λ vs=>xNu H' λ H'=>br (Nat.beq s'.tmps.length E.nt) (some (e,vs,H')) none|none=>none
variable {live liveO:List Nat}
def xuV{E:Env}(Q:P.follows .mixedOrders)(O:InvOk Inv)(q:Inv.pin=E.pin)(V:xM1 P Inv E)(W:LoOk P Inv E c){vals:List AV}{r:LR}(h:XC P E live liveO c vals H=some r.eval):Does P Inv c (λ e1 s1=>e1=r.eval.1/\s1=⟨mkTs E.nt (liveO.zip r.eval.2.1),r.eval.2.2⟩) ⟨mkTs E.nt (live.zip vals),H⟩:=by unfold XC at h;rw[xbz]at h;refine xAY (xdj (xf8 (good:=λ t=>t=some r.eval) Q O q Ψ V c _ _ W h) λ e s' hq=>?_);split at hq;(case h_2=>simp at hq);rename_i Y H1 J;rw[xbz,xcb]at hq;obtain⟨h1,h2⟩:=xcr (good:=λ t=>t=some r.eval) Ψ hq;have hw:=xhY J;rw[zg h1,<-q]at hw;simp only[z6]at h2;exact⟨_,hw,by rw[<-h2],by rw[<-h2]⟩
def encR{σ ρ:Type}(L:σ->List AV×List Box)(out:ρ->LR):σ⊕ρ->Exit×List AV×List Box|.inl s=>(.normal,(L s).1,(L s).2)|.inr r=>(out r).eval
def xwh{σ ρ:Type}{E:Env}(W:P.follows .mixedOrders)(V:InvOk Inv)(J:Inv.pin=E.pin)(Y:xM1 P Inv E)(Z:LoOk P Inv E c){conv:List (Nat×Nat×TypeId)}{step:σ->Option (σ⊕ρ)}(L:σ->List AV×List Box)(out:ρ->LR)
  (O:∀r,(out r).eval.1≠.normal)
  (q:∀s r,step s=some r->XR P E live liveO conv c (L s).1 (L s).2=some (encR L out r)) {s:σ} {r:ρ} (h:Iter step s=some r):
  DoesL P Inv c (λ e1 s1=>e1=(out r).eval.1/\s1=⟨mkTs E.nt (liveO.zip (out r).eval.2.1),(out r).eval.2.2⟩) ⟨mkTs E.nt (live.zip (L s).1),(L s).2⟩:=by
 obtain⟨n,hn⟩:=xqM.1 h;refine xFP (xud (λ n s=>∃b,iterN step n b=some r/\s=⟨mkTs E.nt (live.zip (L b).1),(L b).2⟩) (n0:=n) (Weak.refl _ _) ⟨s,hn,rfl⟩ ?_)
 rintro n s1 ⟨b,hb,rfl⟩;have run:∀(e0:Exit)(vs:List AV)(H':List Box),XR P E live liveO conv c (L b).1 (L b).2=some (e0,vs,H')->Does P Inv c (λ e s'=>e=e0/\Weak Inv.pin s' ⟨mkTs E.nt ((match e with|.normal=>live|_=>liveO).zip vs),H'⟩) ⟨mkTs E.nt (live.zip (L b).1),(L b).2⟩:=λ e0 vs H' hx=>by
  unfold XR at hx;rw[xbz]at hx;refine xdj (xf8 (good:=λ t=>t=some (e0,vs,H')) W V J Ψ Y c _ _ Z hx) λ e s' hq=>?_
  have key:∀ (cv:List (Nat×Nat×TypeId)) (lv:List Nat) (e':Exit),(match normS E.pin cv lv s' with
    |some (vs,H')=>xNV vs λ vs=>xNu H' λ H'=>br (Nat.beq s'.tmps.length E.nt) (some (e',vs,H')) none
    |none=>none)=some (e0,vs,H')->e'=e0/\Weak Inv.pin s' ⟨mkTs E.nt (lv.zip vs),H'⟩:=fun cv lv e' hq=>by
   split at hq
   case h_2=>simp at hq
   rename_i aa H1 Q;rw[xbz,xcb]at hq;obtain⟨h1,h2⟩:=xcr (good:=λ t=>t=some (e0,vs,H')) Ψ hq
   simp only[z6,zb]at h2;obtain⟨rfl,rfl,rfl⟩:=h2;have hw:=xhY Q;rw[zg h1,<-J]at hw;exact⟨rfl,hw⟩
  cases e with
  |normal=>exact key conv live .normal hq
  |exit id=>exact key [] liveO (.exit id) hq
  |ret=>exact key [] liveO .ret hq
  |goto l=>exact key [] liveO (.goto l) hq
  |panic ch=>exact key [] liveO (.panic ch) hq
  |outgrown=>exact key [] liveO .outgrown hq
 cases n with
 |zero=>simp[iterN]at hb
 |succ n=>
  unfold iterN at hb;split at hb
  . rename_i b' hs;have hx:=q b _ hs;refine xdj (run _ _ _ hx) λ e s'⟨he,hw⟩=>?_
    subst he;exact⟨n,_,Nat.lt_succ_self n,hw,b',hb,rfl⟩
  . rename_i r' hs;simp only[z6]at hb;subst hb;have hx:=q b _ hs;refine xdj (run _ _ _ hx) λ e s'⟨he,hw⟩=>?_
    have hne:=O r';rw[<-he]at hne;have:∃s'',Weak Inv.pin s' s''/\e=(out r').eval.1/\s''=⟨mkTs E.nt (liveO.zip (out r').eval.2.1),(out r').eval.2.2⟩:=by
     refine⟨_,?_,he,rfl⟩;cases e<;>first|exact(hne rfl).elim|exact hw
    cases e with
    |normal=>exact(hne rfl).elim
    |_=>exact this
  . simp at hb
end Go.Sim
