/- Part 6 of the proof of the law. -/
import Derived.Test.YtodofdnlhoknhaaGreatDoorTC5
set_option linter.defProp false
set_option linter.unusedVariables false
set_option linter.unusedSimpArgs false
set_option linter.unnecessarySimpa false
noncomputable section
namespace Go.Sim
open Go.RowKit
def jb(r:AV->Option (Bool×AV)):List AV->Option (Bool×List AV)|[]=>some (true,[])|x::xs=>match r x with|some (b,y)=>(match jb r xs with|some (c,ys)=>some (b&&c,y::ys)|none=>none)|none=>none
def kW(r:AV->Option (Bool×AV)):AV->Option (Bool×AV)|.agg cs=>(match jb r cs with|some (b,ds)=>some (b,.agg ds)|none=>none)|x=>r x
def iG(H:List aC):Nat->AV->Option (Bool×AV)|0,x=>some (x.pure,x)|n+1,x=>match x with|.agg cs=>(match jb (iG H n) cs with|some (b,ds)=>some (b,.agg ds)|none=>none)|.func f cs=>(match Nat.beq f vpF with|true=>none|false=>match jb (iG H n) cs with|some (b,ds)=>some (b,.func f ds)|none=>none)|.own id ver i j=>(match ii H id ver with|some (bv,bx)=>(match bW bx.ty with|true=>none|false=>match bx.pm with|true=>some (bv&&decide (i<bx.xs.length),.eptr bx.sz bx.xs i j)|false=>match jb (kW (iG H n)) bx.xs with|some (b,ys)=>some (bv&&(b&&decide (i<bx.xs.length)),.eptr bx.sz ys i j)|none=>none)|none=>none)|.osl id ver off len=>(match ii H id ver with|some (bv,bx)=>(match bW bx.ty with|true=>(match bx.pm with|true=>some (bv&&(decide (off+len<=bx.xs.length)&&d9 bx ((bx.xs.drop off).take len)),.list bx.sz ((bx.xs.drop off).take len))|false=>none)|false=>match bx.pm with|true=>some (bv&&decide (off+len<=bx.xs.length),.list bx.sz ((bx.xs.drop off).take len))|false=>match jb (kW (iG H n)) ((bx.xs.drop off).take len)with|some (b,ys)=>some (bv&&(b&&decide (off+len<=bx.xs.length)),.list bx.sz ys)|none=>none)|none=>none)|x=>some (x.pure,x)
variable {q:AV->Option AV}
def yh{r:AV->Option (Bool×AV)}(h:∀x y,r x=some (true,y)->q x=some y):∀{xs ys:List AV},jb r xs=some (true,ys)->eI q xs=some ys
 |[],ys,e=>by simp only[jb,z6,zb,true_and]at e;subst e;rfl
 |x::xs,ys,e=>by
  unfold jb at e;split at e
  case h_2=>simp at e
  rename_i b y hx;split at e
  case h_2=>simp at e
  rename_i c zs hz;simp only[z6,zb,zf]at e;obtain⟨⟨rfl,rfl⟩,rfl⟩:=e;unfold eI;rw[h _ _ hx,yh h hz]
def yv{r:AV->Option (Bool×AV)}:∀{xs ys:List AV},jb r xs=some (true,ys)->∀x,x∈xs->∃y,r x=some (true,y)
 |[],ys,e,x,hx=>by simp at hx
 |x::xs,ys,e,z,hz=>by
  unfold jb at e;split at e
  case h_2=>simp at e
  rename_i b y hx;split at e
  case h_2=>simp at e
  rename_i c zs q;simp only[z6,zb,zf]at e;obtain⟨⟨rfl,rfl⟩,rfl⟩:=e;rcases zC.1 hz with rfl|hz
  . exact⟨_,hx⟩
  . exact yv q z hz
variable {H:List aC}{n:Nat}
def Rq:∀{xs:List AV},AV.pures xs->eI (resolve H n) xs=some xs|[],_=>rfl|x::xs,h=>by simp only[AV.pures,zf]at h;unfold eI;rw[EE h.1,Rq h.2]
def xyz{r:AV->Option (Bool×AV)}(h:∀x y,r x=some (true,y)->q x=some y)(x y:AV)(e:kW r x=some (true,y)):lI q x=some y:=by(cases x<;>first|exact h _ _ e|skip);simp only[kW]at e;split at e;(case h_2=>simp at e);rename_i b ds hd;cases e;simp only[lI,yh h hd]
def Fk{H:List aC}:∀(n:Nat)(x y:AV),iG H n x=some (true,y)->resolve H n x=some y
 |0,x,y,e=>by
  simp only[iG,z6,zb]at e;rw[<-e.2];exact EE e.1
 |n+1,x,y,e=>by
  have ih:=Fk (H:=H) n;unfold iG at e;split at e
  . rename_i cs;split at e
    case h_2=>simp at e
    rename_i b ds hd;simp only[z6,zb]at e;obtain⟨rfl,rfl⟩:=e;have hm:=yh ih hd;by_cases hp:AV.pures cs=true
    . rw[Rq hp]at hm;cases hm;exact EE (by simpa[AV.pure]using hp)
    . unfold resolve;rw[if_neg (by simpa[AV.pure]using hp)]
      simp only[hm]
  . rename_i f cs;split at e
    . simp at e
    rename_i Q;split at e
    case h_2=>simp at e
    rename_i b ds hd;simp only[z6,zb]at e;obtain⟨rfl,rfl⟩:=e;have hm:=yh ih hd;by_cases hp:AV.pures cs=true
    . rw[Rq hp]at hm;cases hm;exact EE (by simpa[AV.pure]using hp)
    . unfold resolve;rw[if_neg (by simpa[AV.pure]using hp)]
      simp only[Q,hm]
  . rename_i id ver i j;split at e
    case h_2=>simp at e
    rename_i bv bx hb;unfold resolve;rw[if_neg (by simp[AV.pure])]
    split at e
    . simp at e
    rename_i J;split at e
    . rename_i q;simp only[z6,zb,zf,zl]at e;obtain⟨⟨rfl,h2⟩,rfl⟩:=e;simp only[lQ hb,gp,q,if_true];exact if_pos ⟨h2,J⟩
    . rename_i q;split at e
      case h_2=>simp at e
      rename_i b ys hy;simp only[z6,zb,zf,zl]at e;obtain⟨⟨rfl,rfl,h2⟩,rfl⟩:=e;simp only[lQ hb,gp,q,zT,if_false,yh (xyz ih) hy];exact if_pos ⟨h2,J⟩
  . rename_i id ver off len;split at e
    case h_2=>simp at e
    rename_i bv bx hb;unfold resolve;rw[if_neg (by simp[AV.pure])]
    split at e
    . split at e
      case h_2=>simp at e
      rename_i q;simp only[z6,zb,zf,zl]at e;obtain⟨⟨rfl,h2,h3⟩,rfl⟩:=e;simp only[lQ hb,gp,q,if_true];exact if_pos ⟨h2,h3⟩
    rename_i J;have O:d9 bx ((bx.xs.drop off).take len)=true:=by unfold d9;rw[J]
    split at e
    . rename_i q;simp only[z6,zb,zf,zl]at e;obtain⟨⟨rfl,h2⟩,rfl⟩:=e;simp only[lQ hb,gp,q,if_true];exact if_pos ⟨h2,O⟩
    . rename_i q;split at e
      case h_2=>simp at e
      rename_i b ys hy;simp only[z6,zb,zf,zl]at e;obtain⟨⟨rfl,rfl,h2⟩,rfl⟩:=e;simp only[lQ hb,gp,q,zT,if_false,yh (xyz ih) hy];exact if_pos ⟨h2,O⟩
  . simp only[z6,zb]at e;rw[<-e.2];exact EE e.1
def sr(H:List aC):Id->Option aC|.b n=>H[n]?|.r n i j=>match H[n]? with|some bx=>(match db bx.ty j,bx.pm with|true,true=>some ⟨2*((bx.xs.getD i .top).cells.getD j .top).toList.length,fE bx.ty,bM bx.ty,((bx.xs.getD i .top).cells.getD j .top).toList,bx.frz,true⟩|_,_=>none)|none=>none
def mK(H:List aC):Nat->AV->List Nat|0,_=>[]|n+1,x=>match x with|.agg cs=>cs.flatMap (mK H n)|.func _ cs=>cs.flatMap (mK H n)|.own id _ _ _=>id.base::(match sr H id with|some bx=>(match bx.pm with|true=>[]|false=>bx.xs.flatMap λ(e:AV)=>e.cells.flatMap (mK H n))|none=>[])|.osl id _ off len=>id.base::(match sr H id with|some bx=>(match bx.pm with|true=>[]|false=>((bx.xs.drop off).take len).flatMap λ(e:AV)=>e.cells.flatMap (mK H n))|none=>[])|_=>[]
def uO{α β:Type}{f g:α->List β}:∀{l:List α},(∀x,x∈l->f x=g x)->l.flatMap f=l.flatMap g|[],_=>rfl|x::xs,h=>by rw[zR,zR,h x Ψ,uO λ y hy=>h y (by simp[hy])]
def Qg{α β:Type}{f:α->List β}:∀{l:List α},(∀x,x∈l->f x=[])->l.flatMap f=[]|[],_=>rfl|x::xs,h=>by rw[zR,h x Ψ,Qg λ y hy=>h y (by simp[hy])];rfl
variable {xs:List AV}
def xz5(h:AV.pures xs){x:AV}(hx:x∈xs):x.pure:=by rw[RZ,zI]at h;exact h x hx
theorem RM{id:Id}{ver:Nat}{b:Bool}{bx:aC}(h:ii H id ver=some (b,bx)):sr H id=some bx:=by unfold ii sr at *;grind
def Zv{r:AV->Option (Bool×AV)}{e y:AV}(h:kW r e=some (true,y)):∀c,c∈e.cells->∃d,r c=some (true,d):=by(intro c hc;cases e<;>first|(simp only[AV.cells,zv]at hc;subst hc;exact⟨_,h⟩)|skip);simp only[kW]at h;split at h;(case h_2=>simp at h);rename_i b ds hd;simp only[z6,zb]at h;obtain⟨rfl,_⟩:=h;exact yv hd c hc
def Ju{H:List aC}:∀(n:Nat)(x y:AV),iG H n x=some (true,y)->aP H n x=mK H n x
 |0,x,y,e=>by simp[aP,mK]
 |n+1,x,y,e=>by
  have ih:=Ju (H:=H) n;unfold iG at e;split at e
  . rename_i cs;split at e
    case h_2=>simp at e
    rename_i b ds hd;simp only[z6,zb]at e;obtain⟨rfl,rfl⟩:=e;have h1:cs.flatMap (aP H n)=cs.flatMap (mK H n):=uO λ c hc=>by obtain⟨d,Q⟩:=yv hd c hc;exact ih c d Q
    unfold aP;simp only[mK];split
    . rename_i hp;rw[<-h1,Qg λ c hc=>QQ (xz5 (by simpa[AV.pure]using hp) hc)]
    . exact h1
  . rename_i f cs;split at e
    . simp at e
    rename_i V;split at e
    case h_2=>simp at e
    rename_i b ds hd;simp only[z6,zb]at e;obtain⟨rfl,rfl⟩:=e;have h1:cs.flatMap (aP H n)=cs.flatMap (mK H n):=uO λ c hc=>by obtain⟨d,Q⟩:=yv hd c hc;exact ih c d Q
    unfold aP;simp only[mK];split
    . rename_i hp;rw[<-h1,Qg λ c hc=>QQ (xz5 (by simpa[AV.pure]using hp) hc)]
    . exact h1
  . rename_i id ver i j;split at e
    case h_2=>simp at e
    rename_i bv bx hb;unfold aP;rw[if_neg (by simp[AV.pure])]
    split at e
    . simp at e
    have J:bv=true:=by
     split at e
     . simp only[z6,zb,zf]at e;exact e.1.1
     . split at e
       case h_2=>simp at e
       simp only[z6,zb,zf]at e;exact e.1.1
    subst J;simp only[mK,RM hb,(kY (lQ hb)).1];congr 1;split at e
    . rename_i q;simp only[q,if_true]
    . rename_i q;split at e
      case h_2=>simp at e
      rename_i b ys hy;simp only[z6,zb,zf]at e;obtain⟨⟨_,rfl,_⟩,_⟩:=e;simp only[q,zT,if_false];exact uO λ e he=>uO λ c hc=>by
       obtain⟨y,O⟩:=yv hy e he;obtain⟨d,hd⟩:=Zv O c hc;exact ih c d hd
  . rename_i id ver off len;split at e
    case h_2=>simp at e
    rename_i bv bx hb;unfold aP;rw[if_neg (by simp[AV.pure])]
    split at e
    . split at e
      case h_2=>simp at e
      rename_i q;simp only[z6,zb,zf]at e;obtain⟨⟨rfl,_⟩,_⟩:=e;simp only[mK,RM hb,(kY (lQ hb)).1,q,if_true]
    have J:bv=true:=by
     split at e
     . simp only[z6,zb,zf]at e;exact e.1.1
     . split at e
       case h_2=>simp at e
       simp only[z6,zb,zf]at e;exact e.1.1
    subst J;simp only[mK,RM hb,(kY (lQ hb)).1];congr 1;split at e
    . rename_i q;simp only[q,if_true]
    . rename_i q;split at e
      case h_2=>simp at e
      rename_i b ys hy;simp only[z6,zb,zf]at e;obtain⟨⟨_,rfl,_⟩,_⟩:=e;simp only[q,zT,if_false];exact uO λ e he=>uO λ c hc=>by
       obtain⟨y,O⟩:=yv hy e he;obtain⟨d,hd⟩:=Zv O c hc;exact ih c d hd
  . simp only[z6,zb]at e;rw[QQ e.1];rename_i h1 h2 h3 h4;cases x<;>first|rfl|exact(h1 _ rfl).elim|exact(h2 _ _ rfl).elim|exact(h3 _ _ _ _ rfl).elim|exact(h4 _ _ _ _ rfl).elim
variable {ys:List AV}
def xES(h:jb (iG H n) xs=some (true,ys)):xs.flatMap (aP H n)=xs.flatMap (mK H n):=uO λ c hc=>by obtain⟨d,hd⟩:=yv h c hc;exact Ju n c d hd
def nk(H:List aC)(args:List AV)(r:AV):List aC:=if r.flat then H else freeze H (args.flatMap (mK H eG))
def xFH(h:jb (iG H eG) xs=some (true,ys))(r:AV):nk H xs r=wQ H xs r:=by unfold nk wQ;rw[xES h]
inductive LR where|leaf (e:Exit) (out:List AV) (H:List aC)|node (t:Bool) (a b:LR)
def LR.eval:LR->Exit×List AV×List aC|.leaf e o H=>(e,o,H)|.node t a b=>match t with|true=>a.eval|false=>b.eval
def LR.run{T:Type}(f:Exit->List AV->List aC->T):LR->T|.leaf e o H=>f e o H|.node t a b=>br t (a.run f) (b.run f)
def LR.run_good{T:Type}{good:T->Prop}{f:Exit->List AV->List aC->T}:∀{r:LR},good (r.run f)->good (f r.eval.1 r.eval.2.1 r.eval.2.2)|.leaf e o H,h=>h|.node true a b,h=>LR.run_good (r:=a) h|.node false a b,h=>LR.run_good (r:=b) h
structure Lp where
 live:List Nat
 liveO:List Nat
 conv:List (Nat×Nat×TypeId)
 run:List AV->List aC->Option (Bool×LR)
structure dp where
 orc:FuncId->List AV->Option (Bool×AV)
 isM:FuncId->Bool
 orcM:FuncId->List AV->List aC->Option (Bool×AV×List aC)
 lp:Nat->Option Lp
 nt:Nat
 fuel:Nat
 pin:Nat
 ls:TypeId->Bool
def jp:Code->Nat|.region id _ _=>id|.seq a _=>jp a|.block _ c=>jp c|.loop c=>jp c|.cond _ a _=>jp a|_=>0
def n7:List Oper->Bool|[]=>false|[o]=>(match o.op with|.range _ _=>true|_=>false)|_::l=>n7 l
def n5:Code->Bool|.region _ ops _=>n7 ops.toList|_=>false
def jW:Code->List Code|.seq a b=>(match n5 a with|true=>[]|false=>jW a++jW b)|.block _ c=>jW c|.loop c=>c::jW c|.cond _ a b=>jW a++jW b|_=>[]
def jF:Code->List Code|.seq a b=>(match n5 a with|true=>[.seq a b]|false=>jF a++jF b)|.block _ c=>jF c|.loop c=>jF c|.cond t a b=>.cond t a b::(jF a++jF b)|.rangeFunc g ps a b=>[.rangeFunc g ps a b]|_=>[]
def gL:Code->Nat|.cond _ a _=>1000000+jp a|.rangeFunc _ _ _ b=>3000000+jp b|.seq a _=>4000000+jp a|_=>0
def dA(P:Program)(Inv:IV)(E:dp):Prop:=(∀g args r,E.orc g args=some (true,r)->Good P Inv g args r)/\∀g args H r H',E.orcM g args H=some (true,r,H')->bH P Inv g args H r H'
def dU(P:Program)(Inv:IV)(nt:Nat)(l:Code)(lp:Lp):Prop:=∀vals H r,lp.run vals H=some (true,r)->fc P Inv l (λ e1 s1=>e1=r.eval.1/\s1=⟨aX nt (lp.liveO.zip r.eval.2.1),r.eval.2.2⟩) ⟨aX nt (lp.live.zip vals),H⟩
def lq(P:Program)(Inv:IV)(nt:Nat)(d:Code)(lp:Lp):Prop:=∀vals H r,lp.run vals H=some (true,r)->bK P Inv d (λ e1 s1=>e1=r.eval.1/\s1=⟨aX nt (lp.liveO.zip r.eval.2.1),r.eval.2.2⟩) ⟨aX nt (lp.live.zip vals),H⟩
def dw(P:Program)(Inv:IV)(E:dp)(c:Code):Prop:=(∀l,l∈jW c->∀lp,E.lp (jp l)=some lp->dU P Inv E.nt l lp)/\∀d,d∈jF c->∀lp,E.lp (gL d)=some lp->lq P Inv E.nt d lp
variable {Inv:IV}{P:Program}{c:Code}
def dw.sub{E:dp}{c':Code}(h:dw P Inv E c)(h1:∀l,l∈jW c'->l∈jW c)(h2:∀d,d∈jF c'->d∈jF c):dw P Inv E c':=⟨λ l hl=>h.1 l (h1 l hl),λ d hd=>h.2 d (h2 d hd)⟩
variable {Q:Exit->St->Prop}{s:St}
def ZU{s':St}(hw:dx Inv.pin s s')(h:fc P Inv c Q s'):fc P Inv c Q s:=λ w0 A0 w A M a Qc hI hp hs hQ=>by obtain⟨A'',M'',q⟩:=hw w0 A0 w A M a hp hs;exact h w0 A0 w A'' M'' a Qc hI hp q hQ
def vm{s':St}(hw:dx Inv.pin s s')(h:bK P Inv c Q s'):bK P Inv c Q s:=λ w0 A0 w A M a Qc hI hp hs hQ=>by obtain⟨A'',M'',q⟩:=hw w0 A0 w A M a hp hs;exact h w0 A0 w A'' M'' a Qc hI hp q hQ
section exec
variable{T:Type}(P:Program)(E:dp)(bad:T)
def jy(q:Bool)(o:Oper)(s:St)(K:St->T):T:=
 if jz o.op then
  (if q then match kT P s.eval s.heap o.op with
   |some (b,has,b1,x,y)=>br b (br has (br b1 (dc x λ x'=>fi s.tmps o.dst x' λ ts=>K ⟨ts,s.heap⟩) bad) (dc y λ x'=>fi s.tmps o.dst x' λ ts=>K ⟨ts,s.heap⟩)) bad
   |none=>match sv P s.eval s.heap o.op with
    |some (b,x,H)=>br b (dc x λ x'=>fi s.tmps o.dst x' λ ts=>kB H λ H'=>K ⟨ts,H'⟩) bad
    |none=>bad
  else bad)
 else match so P E.ls s.eval s.heap s.heap.length o.op with
  |some (b,x,nb)=>br b (dc x λ x'=>fi s.tmps o.dst x' λ ts=>kB (s.heap++nb.toList) λ H'=>K ⟨ts,H'⟩) bad
  |none=>bad
def lN(o:Oper)(c:Call)(s:St)(K:St->T):T:=match pu s c with|some (g,args)=>(let ids:=gather s.heap 1000 (refsOf.refsL args) [];match dZ ids with|true=>(match fj (oW ids) s.heap ids with|some H0=>(jN (rens (oW ids) args) λ aS=>kB H0 λ H0=>match E.orcM g aS H0 with|some (b,r0,H0')=>br b (dc (ren (iE ids s.heap.length ids.length) r0) λ r'=>fi s.tmps o.dst r' λ ts=>kB (eY s.heap ids H0') λ H'=>K ⟨ts,H'⟩) bad|none=>bad)|none=>bad)|false=>bad)|none=>bad
def lz(H:List aC):List AV->Option Nat|[]=>none|.osl (.b n) _ _ _::r=>(match H[n]? with|some bx=>(match bW bx.ty with|true=>some n|false=>lz H r)|none=>lz H r)|_::r=>lz H r
def nR(o:Oper)(c:Call)(s:St)(K:St->T):T:=match pu s c with|some (_,args)=>(match lz s.heap args with|some n=>(match s.heap[n]? with|some bx=>(match bW bx.ty&&!dy bx.ty with|true=>br (d9 bx bx.xs) (kB (s.heap.set n ⟨bx.ver,bx.sz,gz bx.ty,bx.xs,bx.frz,true⟩) λ H=>lN E bad o c ⟨s.tmps,H⟩ K) bad|false=>bad)|none=>bad)|none=>lN E bad o c s K)|none=>bad
def sj(s:St)(c:Call):Bool:=match pu s c with|some (g,_)=>E.isM g|none=>false
def qV(o:Oper)(c:Call)(s:St)(K:St->T):T:=match pu s c with|some (g,args)=>(match jb (iG s.heap eG) args with|some (b,args')=>(br b (jN args' fun aS=>match E.orc g aS with|some (b2,r)=>br b2 (dc r λ r'=>fi s.tmps o.dst r' λ ts=>kB (nk s.heap args r') λ H'=>K ⟨ts,H'⟩) bad|none=>bad) bad)|none=>bad)|none=>bad
def B8(q:Bool)(o:Oper)(s:St)(K:St->T):T:=match o.op with|.pick c a b=>(match s.eval c with|.bool t=>br t (dc (s.eval a) λ x=>fi s.tmps o.dst x λ ts=>K ⟨ts,s.heap⟩) (dc (s.eval b) λ x=>fi s.tmps o.dst x λ ts=>K ⟨ts,s.heap⟩)|_=>bad)|.call c=>(match c.callee with|.value _=>(match sj E s c with|true=>(match q with|true=>nR E bad o c s K|false=>bad)|false=>qV E bad o c s K)|_=>jy P E bad q o s K)|_=>jy P E bad q o s K
def C0(H:List aC):AV->Bool×AV×List Nat|.osl id ver off len=>(match iG H eG (.osl id ver off len)with|some (b,y)=>(b,y,mK H eG (.osl id ver off len))|none=>(false,.top,[]))|.own id ver i j=>(match iG H eG (.own id ver i j)with|some (b,y)=>(b,y,mK H eG (.own id ver i j))|none=>(false,.top,[]))|x=>(true,x,[])
def jv(H:List aC)(q:List AV):List Nat->Bool×List AV×List Nat|[]=>(true,q,[])|t::r=>match jv H q r with|(b,ts,ids)=>match C0 H (q.getD t .top)with|(b',y,ids')=>(b'&&b,ts.set t y,ids'++ids)
def jB(ts:List AV):List Operand->List Nat|[]=>[]|.tmp t::r=>(match ts.getD t .top with|.osl _ _ _ _=>t::jB ts r|_=>jB ts r)|_::r=>jB ts r
def wA(H:List aC)(ts:List AV):Operand->List Nat|.tmp t=>(match ts.getD t .top with|.osl (.b id) _ _ _=>(match H[id]? with|some bx=>(match bx.pm with|true=>[]|false=>[t])|none=>[])|_=>[])|_=>[]
def CR(s:St)(o:Oper):List Nat:=match o.op with|.buildSlice t _ _=>(match P.underlying t with|some (.slice e)=>(match E.ls e with|true=>jB s.tmps o.op.operands.toList|false=>[])|_=>[])|.build t _=>(match E.ls t || E.ls (9000000+t)with|true=>jB s.tmps o.op.operands.toList|false=>[])|.move a=>(match o.dst with|some d=>(match E.ls (2000000+d)with|true=>jB s.tmps [a]|false=>[])|none=>[])|.store t _ v=>(match E.ls (4000000+t)with|true=>jB s.tmps [v]|false=>[])|.call c=>(match c.callee with|.builtin b=>(match b,c.argTypes.toList,c.args.toList with|.append,[t,_],[_,x]=>(match P.underlying t with|some (.slice e)=>(match E.ls e with|true=>wA s.heap s.tmps x|false=>[])|_=>[])|_,_,_=>[])|_=>[])|_=>[]
def yB(tl:List Nat)(o:Oper)(s:St)(K:St->T):T:=match jv s.heap s.tmps tl with
 |(b,q,ids)=>br b (jN q fun q=>kB (freeze s.heap ids) fun H1=>match jz o.op with
  |true=>match sv P (St.eval ⟨q,H1⟩) H1 o.op with
   |some (b2,x,H2)=>br b2 (dc x λ x'=>fi s.tmps o.dst x' λ ts=>kB H2 λ H'=>K ⟨ts,H'⟩) bad
   |none=>bad
  |false=>match so P E.ls (St.eval ⟨q,H1⟩) H1 H1.length o.op with
  |some (b2,x,nb)=>br b2 (dc x λ x'=>fi s.tmps o.dst x' λ ts=>kB (H1++nb.toList) λ H'=>K ⟨ts,H'⟩) bad
  |none=>bad) bad
def xY(o:Oper)(s:St)(K:St->T):T:=match qh s.eval o.op with|some (b,x)=>br b (dc x λ x'=>fi s.tmps o.dst x' λ ts=>K ⟨ts,s.heap⟩) bad|none=>bad
def kR(q:Bool)(o:Oper)(s:St)(K:St->T):T:=match CR P E s o with
 |[]=>match CG E.ls o.op with
  |true=>xY bad o s K
  |false=>B8 P E bad q o s K
 |t::r=>match q with
  |true=>yB P E bad (t::r) o s K
  |false=>bad
def lU(ops:Array Oper)(o:Oper)(s:St)(K:Bool->St->T):T:=match o.guard with|none=>K true s|some (j,want)=>match jG ops j with|none=>K false s|some d=>match s.tmps[d]? with|none=>K false s|some (.bool t)=>br t (nI s.tmps d (.bool true) λ ts=>K (true==want) ⟨ts,s.heap⟩) (nI s.tmps d (.bool false) λ ts=>K (false==want) ⟨ts,s.heap⟩)|some (.tuple _)=>K false s|_=>bad
def tN(o:Oper)(s:St)(K:St->T):T:=match qi P s.eval s.heap s.heap.length o.op with|some (b,x,nb)=>br b (dc x λ x'=>fi s.tmps o.dst x' λ ts=>kB (s.heap++nb.toList) λ H'=>K ⟨ts,H'⟩) bad|none=>B8 P E bad false o s K
def yw(o:Oper)(s:St)(K:St->T):T:=match kT P s.eval s.heap o.op with|some (b,has,b1,x,y)=>br b (br has (br b1 (dc x λ x'=>fi s.tmps o.dst x' λ ts=>K ⟨ts,s.heap⟩) bad) (dc y λ x'=>fi s.tmps o.dst x' λ ts=>K ⟨ts,s.heap⟩)) bad|none=>match o.op with|.lookup _ _ _ _=>tN P E bad o s K|_=>kR P E bad false o s K
def nV(md:Option Bool)(o:Oper)(s:St)(K:St->T):T:=match md with|some true=>kR P E bad true o s K|some false=>yw P E bad o s K|none=>tN P E bad o s K
def cT(q:Option Bool)(ops:Array Oper):List Oper->St->(St->T)->T|[],s,K=>K s|o::rest,s,K=>lU bad ops o s λ b s1=>match b with|true=>nV P E bad q o s1 λ s'=>cT q ops rest s' K|false=>fi s1.tmps o.dst (.tuple []) λ ts=>cT q ops rest ⟨ts,s1.heap⟩ K
def ua(o:Oper):Bool:=match o.op with|.call c=>(match c.callee with|.value (.func g)=>E.isM g|_=>jz o.op)|.lookup _ _ _ _=>(match E.ls 8000000 with|true=>false|false=>true)|_=>jz o.op
def eL:List Oper->Nat|[]=>0|o::l=>match ua E o with|true=>0|false=>eL l+1
def gY(ops:Array Oper)(m:Nat):Nat->List Oper->St->(St->T)->T|_,[],s,K=>K s|k,o::rest,s,K=>match ku ops m ((dM ops).getD k 0)with|[]=>(lU bad ops o s λ b s1=>match b with|true=>kR P E bad true o s1 λ s'=>gY ops m (k+1) rest s' K|false=>fi s1.tmps o.dst (.tuple []) λ ts=>gY ops m (k+1) rest ⟨ts,s1.heap⟩ K)|d::ds=>match o.guard with|none=>jN (fC (d::ds) s.tmps) λ ms=>kR P E bad true o ⟨ms,s.heap⟩ λ s'=>jN (jh (d::ds) s.tmps s'.tmps) λ ts=>gY ops m (k+1) rest ⟨ts,s'.heap⟩ K|some _=>bad
def CH(o:Oper):Bool:=match o.op with|.assign _=>true|_=>false
def qD:List Oper->Nat|[]=>0|o::l=>match CH o with|true=>qD l+1|false=>0
def oR(ops:Array Oper):Nat:=match fS false ops (eL E ops.toList)with|true=>eL E ops.toList|false=>match fS false ops (eL E ops.toList - 1)with|true=>eL E ops.toList - 1|false=>eL E ops.toList - qD (ops.toList.take (eL E ops.toList)).reverse
def nu(ops:Array Oper):Nat:=eL E ops.toList - qD (ops.toList.take (eL E ops.toList)).reverse
def Cu(o:Oper):Option Tmp:=match o.op with|.call c=>(match c.callee with|.builtin b=>(match b,c.args.toList with|.append,[.tmp d,_]=>some d|_,_=>none)|_=>none)|_=>none
def LG(o:Oper):Option Tmp:=match o.op with|.buildSlice _ len _=>(match len with|0=>o.dst|_+1=>none)|_=>none
def qj(q:List Tmp):List Oper->Nat|[]=>0|o::l=>match ua E o with|true=>(match Cu o with|some d=>(match (gX q d).isSome with|true=>qj q l+1|false=>0)|none=>0)|false=>qj q l+1
def oQ(ops:Array Oper):Nat:=qj E (ops.toList.filterMap LG) ops.toList
def nE(ops:Array Oper)(m:Nat)(s:St):Bool:=(List.range m).all λ i=>match ops[i]? with|some o=>(match mT true ops m i with|true=>dD s.eval o.op|false=>true)|none=>true
variable {m:Nat}{ops:Array Oper}
def Zr{s:St}(h:nE ops m s):∀i o,i<m->ops[i]?=some o->mT true ops m i->dD s.eval o.op:=λ i o hi ho hf=>by have:=zI.1 h i (List.mem_range.2 hi);simp only[ho,hf]at this;exact this
def ZH{s:St}:∀i o,i<m->ops[i]?=some o->mT false ops m i->dD s.eval o.op:=λ i o _ ho hf=>by obtain⟨o',q,h,_⟩:=Eu hf;rw[ho]at q;cases q;exact xId h
def ou(ops:Array Oper)(q:Bool)(s:St)(K:St->T):T:=match aN ops with
 |false=>bad
 |true=>if q then
  if(decide (oR E ops<=ops.size)&&fS false ops (oR E ops)) then
   cT P E bad (some false) ops (ops.toList.take (oR E ops)) s λ s1=>gY P E bad ops (oR E ops) (oR E ops) (ops.toList.drop (oR E ops)) s1 K
  else if(decide (oQ E ops<=ops.size)&&fS false ops (oQ E ops)) then
   cT P E bad none ops (ops.toList.take (oQ E ops)) s λ s1=>gY P E bad ops (oQ E ops) (oQ E ops) (ops.toList.drop (oQ E ops)) s1 K
  else if(decide (eL E ops.toList<=ops.size)&&fS true ops (eL E ops.toList)) then
   cT P E bad (some false) ops (ops.toList.take (eL E ops.toList)) s λ s1=>match nE ops (eL E ops.toList) s1 with
    |true=>gY P E bad ops (eL E ops.toList) (eL E ops.toList) (ops.toList.drop (eL E ops.toList)) s1 K
    |false=>bad
  else if(decide (nu E ops<=ops.size)&&fS true ops (nu E ops)) then
   cT P E bad (some false) ops (ops.toList.take (nu E ops)) s λ s1=>match nE ops (nu E ops) s1 with
    |true=>gY P E bad ops (nu E ops) (nu E ops) (ops.toList.drop (nu E ops)) s1 K
    |false=>bad
  else bad
 else cT P E bad (some true) ops ops.toList s K
def dC(s:St):List Oper->List Nat|[]=>[]|o::_=>match o.op with|.move a=>(match o.dst with|some d=>(match E.ls (3000000+d)with|true=>jB s.tmps [a]|false=>match E.ls (5000000+d)with|true=>(List.range s.tmps.length).filter λ t=>E.ls (6000000+t)|false=>[])|none=>[])|_=>match o.dst with|some d=>(match E.ls (5000000+d)with|true=>(List.range s.tmps.length).filter λ t=>E.ls (6000000+t)|false=>[])|none=>[]
def ow(ops:Array Oper)(q:Bool)(s:St)(K:St->T):T:=match dC E s ops.toList with|[]=>ou P E bad ops q s K|t::r=>match jv s.heap s.tmps (t::r)with|(b,J,ids)=>br b (jN J λ J=>kB (freeze s.heap ids) λ H1=>ou P E bad ops q ⟨J,H1⟩ K) bad
def LW(s:St):List Oper->List (Nat×Nat×TypeId)|[]=>[]|o::_=>match o.dst with|some d=>(match E.ls (10000000+d)with|true=>((List.range s.tmps.length).filter λ t=>E.ls (11000000+t)).map λ t=>(t,0,(1073741824:Nat))|false=>[])|none=>[]
def wT(ops:Array Oper)(q:Bool)(s:St)(K:St->T):T:=match LW E s ops.toList with|[]=>ow P E bad ops q s K|c::cs=>match convs (c::cs) s.tmps s.heap with|(J,H1)=>jN J λ J=>kB H1 λ H1=>ow P E bad ops q ⟨J,H1⟩ K
def oJ(R:St->(Exit->St->T)->T):Nat->St->(Exit->St->T)->T|0,_,_=>bad|n+1,s,K=>R s λ e s'=>match e with|.normal=>oJ R n s' K|e=>K e s'
def gZ(lp:Lp)(s:St)(K:Exit->St->T)(F:T):T:=match gx E.pin lp.conv lp.live s with|some (vals,H0)=>(jN vals λ vals=>kB H0 λ H0=>match lp.run vals H0 with|some (b,r)=>br (Nat.beq s.tmps.length E.nt) (br b (r.run λ e out H'=>jN (aX E.nt (lp.liveO.zip out)) λ ts=>kB H' λ H''=>K e ⟨ts,H''⟩) bad) bad|none=>F)|none=>F
def ry(lp:Lp)(R:St->(Exit->St->T)->T):Nat->St->(Exit->St->T)->T|0,s,K=>gZ E bad lp s K bad|n+1,s,K=>gZ E bad lp s K (R s fun e s'=>match e with|.normal=>ry lp R n s' K|e=>K e s')
def li(c:Operand)(b:Bool)(s:St)(K:St->T):T:=match E.ls 7000000,c with|true,.tmp n=>nI s.tmps n (.bool b) λ ts=>K ⟨ts,s.heap⟩|_,_=>K s
def X:Code->St->(Exit->St->T)->T|.skip,s,K=>K .normal s|.region _ ops draw,s,K=>wT P E bad ops draw s (K .normal)|.seq a b,s,K=>(match n5 a with|true=>(match E.lp (4000000+jp a)with|some lp=>gZ E bad lp s K bad|none=>bad)|false=>X a s λ e s'=>match e with|.normal=>X b s' K|e=>K e s')|.cond c a b,s,K=>(match E.lp (1000000+jp a)with|some lp=>gZ E bad lp s K bad|none=>match s.eval c with|.bool t=>br t (li E c true s λ s=>X a s K) (li E c false s λ s=>X b s K)|_=>bad)|.block id c,s,K=>(X c s λ e s'=>match e with|.exit id'=>if id'=id then K .normal s' else K (.exit id') s'|e=>K e s')|.loop c,s,K=>(match E.lp (jp c)with|some lp=>ry E bad lp (λ s K=>X c s K) 2 s K|none=>oJ bad (λ s K=>X c s K) E.fuel s K)|.rangeFunc _ _ _ b,s,K=>(match E.lp (3000000+jp b)with|some lp=>gZ E bad lp s K bad|none=>bad)|.exit id,s,K=>K (.exit id) s|.ret,s,K=>K .ret s|_,_,_=>bad
end exec
section sound
variable{T:Type}{P:Program}{Inv:IV}{E:dp}{bad:T}{good:T->Prop}
variable {s:St}
def Ub{c:Operand}{b:Bool}(h:s.eval c=.bool b)(K:St->T):li E c b s K=K s:=by unfold li;split;(rename_i n _;rw[yx];have h:s.tmps.getD n .top=.bool b:=h;have e:s.tmps.set n (.bool b)=s.tmps:=by rcases zJ n s.tmps.length with g|g;rw[<-h];refine List.ext_getElem Ψ λ i h1 h2=>?_;rw[List.getElem_set];split;rename_i e;subst e;rw[z7,ze h2,zh];rfl;exact List.set_eq_of_length_le g);rw[e];rfl
def jY(q:¬ good bad){t:Bool}{a:T}(h:good (br t a bad)):t/\good a:=by cases t with|true=>exact⟨rfl,h⟩|false=>exact(q h).elim
variable {J:Bool}{K:St->T}{o:Oper}
def ZB(q:¬ good bad)(h:good (jy P E bad J o s K)):
  if jz o.op=true then J=true/\jA P o s (λ s'=>good (K s'))else iq P o s (λ s'=>good (K s')):=by
 unfold jy at h;split
 . rename_i hi;rw[if_pos hi]at h;split at h
   case isFalse=>exact(q h).elim
   rename_i O;refine⟨O,?_⟩;split at h
   . rename_i b Q b1 x y hx;obtain⟨rfl,h⟩:=jY q h;obtain⟨f1,f2⟩:=xEz hx;unfold jA;cases Q with
     |true=>
      have h:good (br b1 (dc x λ x'=>fi s.tmps o.dst x' λ ts=>K ⟨ts,s.heap⟩) bad):=h
      obtain⟨rfl,h⟩:=jY q h;rw[l6,l8]at h;rw[f1 rfl rfl];exact h
     |false=>
      have h:good (dc y λ x'=>fi s.tmps o.dst x' λ ts=>K ⟨ts,s.heap⟩):=h
      rw[l6,l8]at h;rw[f2 rfl];exact h
   split at h
   case h_2=>exact(q h).elim
   rename_i b x H hx;obtain⟨rfl,h⟩:=jY q h;rw[l6,l8,lO]at h;unfold jA;rw[xzO hx];exact h
 . rename_i hi;rw[if_neg hi]at h;split at h
   case h_2=>exact(q h).elim
   rename_i b x nb hx;obtain⟨rfl,h⟩:=jY q h;rw[l6,l8,lO]at h;unfold iq;rw[xzJ hx];exact h
variable {c:Call}
def Y9(q:¬ good bad)(O:dA P Inv E)(h:good (qV E bad o c s K)):nW P Inv s c o.dst (λ s'=>good (K s')):=by
 unfold qV at h;split at h;case h_2=>exact(q h).elim
 rename_i g args J;split at h;case h_2=>exact(q h).elim
 rename_i b Q hm;have ⟨e1,h1⟩:=jY q h;clear h;subst e1;rw[kF]at h1;split at h1;case h_2=>exact(q h1).elim
 rename_i b2 r hr;have ⟨e2,h⟩:=jY q h1;clear h1;subst e2;rw[l6,l8,lO,xFH hm]at h;exact xEk J (yh (Fk eG) hm) (O.1 _ _ _ hr) h
def xI7{d:Option Tmp}{K:St->Prop}(h:nW P Inv s c d K):pU P Inv s c d K:=by obtain⟨s',h1,h2⟩:=h;exact⟨s',.inl h1,h2⟩
def YW(q:¬ good bad)(Q:dA P Inv E)(h:good (lN E bad o c s K)):∃s',oN P Inv s ⟨o.dst,.call c,0, "",#[],none⟩ s'/\good (K s'):=by
 unfold lN at h;split at h;case h_2=>exact(q h).elim
 rename_i g args O;simp only at h;generalize gather s.heap 1000 (refsOf.refsL args) []=ids at h;split at h;case h_2=>exact(q h).elim
 rename_i V;split at h;case h_2=>exact(q h).elim
 rename_i H0 J;rw[kF,lO]at h;split at h;case h_2=>exact(q h).elim
 rename_i b r0 H0' hr;obtain⟨rfl,h⟩:=jY q h;rw[l6,l8,lO]at h;exact⟨_,.inr (.inl ⟨c,g,args,ids,H0,r0,H0',rfl,O,V,J,Q.2 _ _ _ _ _ hr,rfl⟩),h⟩
def xCn(q:¬ good bad)(J:dA P Inv E)(h:good (nR E bad o c s K)):pU P Inv s c o.dst (λ s'=>good (K s')):=by
 unfold nR at h;split at h;case h_2=>exact(q h).elim
 split at h;rename_i n hn;split at h;case h_2=>exact(q h).elim
 rename_i bx hb;split at h;case h_2=>exact(q h).elim
 rename_i hC;obtain⟨O,h⟩:=jY q h;rw[lO]at h;obtain⟨s',h1,h2⟩:=YW q J h;simp only[zf,Bool.not_eq_true']at hC;exact⟨s',.inr (.inr (.inl ⟨_,⟨n,bx,hb,hC.1,hC.2,O,rfl⟩,h1⟩)),h2⟩;obtain⟨s',h1,h2⟩:=YW q J h;exact⟨s',.inr (.inl h1),h2⟩
def xMx(q:¬ good bad)(J:dA P Inv E)(h:good (B8 P E bad true o s K)):oh P Inv o s (λ s'=>good (K s')):=by
 have plain:good (jy P E bad true o s K)->(if jz o.op then jA P o s (λ s'=>good (K s'))else iq P o s (λ s'=>good (K s'))):=λ h=>by have:=ZB q h;split at this<;>rename_i hi;rw[if_pos hi];exact this.2;rw[if_neg hi];exact this
 unfold B8 at h;unfold oh;split at h;rename_i c a b ho;split at h;case h_2=>exact(q h).elim
 rename_i t ht;simp only[ho,ht];rw[l6,l6,l8,l8]at h;cases t with|true=>exact xzz (by simpa only[br]using h)|false=>exact ZQ (by simpa only[br]using h)
 rename_i c ho;split at h;rename_i f hf;simp only[ho,hf];split at h;exact xCn q J h;exact xI7 (Y9 q J h);rename_i hne;have:=plain h;simp only[ho]at this|-;cases hc:c.callee<;>first|exact(hne _ hc).elim|exact this
 rename_i h1 h2;have:=plain h;cases ho:o.op<;>first|exact(h1 _ _ _ ho).elim|exact(h2 _ ho).elim|exact this|(rw[ho]at this;exact this)
def Wk(q:¬ good bad)(J:dA P Inv E)(h:good (B8 P E bad false o s K)):jC P Inv o s (λ s'=>good (K s')):=by
 have plain:good (jy P E bad false o s K)->iq P o s (λ s'=>good (K s')):=λ h=>by have:=ZB q h;split at this<;>rename_i hi;exact absurd this.1 Ψ;exact this
 unfold B8 at h;unfold jC;split at h;rename_i c a b ho;split at h;case h_2=>exact(q h).elim
 rename_i t ht;simp only[ho,ht];rw[l6,l6,l8,l8]at h;cases t with|true=>exact xzz (by simpa only[br]using h)|false=>exact ZQ (by simpa only[br]using h)
 rename_i c ho;split at h;rename_i f hf;simp only[ho,hf];split at h;exact(q h).elim;exact Y9 q J h;rename_i hne;have:=plain h;simp only[ho]at this|-;cases hc:c.callee<;>first|exact(hne _ hc).elim|exact this
 rename_i h1 h2;have:=plain h;cases ho:o.op<;>first|exact(h1 _ _ _ ho).elim|exact(h2 _ ho).elim|exact this|(rw[ho]at this;exact this)
def Jz{H:List aC}{q:List AV}:∀{tl:List Nat}{ts:List AV}{ids:List Nat},jv H q tl=(true,ts,ids)->ts.length=q.length/\∀t,ts.getD t .top=q.getD t .top\/(resolve H eG (q.getD t .top)=some (ts.getD t .top)/\∀id,id∈aP H eG (q.getD t .top)->id∈ids)|[],ts,ids,h=>(by simp only[jv,zb,true_and]at h;obtain⟨rfl,rfl⟩:=h;exact⟨rfl,λ t=>.inl rfl⟩)|t::r,ts,ids,h=>by unfold jv at h;split at h;rename_i b J V h1;split at h;rename_i b' y W h2;simp only[zb,zf]at h;obtain⟨⟨rfl,rfl⟩,rfl,rfl⟩:=h;obtain⟨e1,e2⟩:=Jz h1;refine⟨by rw[y4,e1],λ k=>?_⟩;by_cases hk:k=t/\t<J.length;obtain⟨rfl,hl⟩:=hk;rw[pG hl];unfold C0 at h2;split at h2;rename_i id ver off len hx;split at h2;rename_i b y0 hr;simp only[zb]at h2;obtain⟨rfl,rfl,rfl⟩:=h2;rw[hx];refine .inr ⟨Fk eG _ _ hr,λ i hi=>?_⟩;rw[Ju eG _ _ hr]at hi;exact List.mem_append_left _ hi;simp at h2;rename_i id ver off len hx;split at h2;rename_i b y0 hr;simp only[zb]at h2;obtain⟨rfl,rfl,rfl⟩:=h2;rw[hx];refine .inr ⟨Fk eG _ _ hr,λ i hi=>?_⟩;rw[Ju eG _ _ hr]at hi;exact List.mem_append_left _ hi;simp at h2;simp only[zb,true_and]at h2;exact .inl h2.1.symm;(have:(J.set t y).getD k .top=J.getD k .top:=by by_cases O:k=t;subst O;rw[List.set_eq_of_length_le Ω];exact pH (λ e=>O e.symm));rw[this];rcases e2 k with h|⟨h,h'⟩;exact .inl h;exact .inr ⟨h,λ id Q=>List.mem_append_right _ (h' id Q)⟩
def xFb(q:¬ good bad){tl:List Nat}(h:good (yB P E bad tl o s K)):∃s',iA P Inv s o s'/\good (K s'):=by
 unfold yB at h;split at h;rename_i b O ids J;have ⟨hb,h1⟩:=jY q h;clear h;subst hb;rw[kF,lO]at h1;split at h1
 . split at h1
   case h_2=>exact(q h1).elim
   rename_i b2 x H2 hx;have ⟨hb,h⟩:=jY q h1;clear h1;subst hb;rw[l6,l8,lO]at h;obtain⟨e1,e2⟩:=Jz J;exact⟨_,.inr (.inr (.inr ⟨⟨O,freeze s.heap ids⟩,x,H2,⟨ids,rfl,e1,e2⟩,xzO hx,rfl⟩)),h⟩
 split at h1
 case h_2=>exact(q h1).elim
 rename_i b2 x nb hx;have ⟨hb,h⟩:=jY q h1;clear h1;subst hb;rw[l6,l8,lO]at h;obtain⟨e1,e2⟩:=Jz J;exact⟨_,.inr (.inl (.inr (.inr ⟨⟨O,freeze s.heap ids⟩,x,nb,⟨ids,rfl,e1,e2⟩,xzJ hx,rfl⟩))),h⟩
def xyZ(q:¬ good bad)(h:good (xY bad o s K)):∃s',j7 P Inv s o s'/\good (K s'):=by unfold xY at h;split at h;(case h_2=>exact(q h).elim);rename_i b x hx;obtain⟨hb,h'⟩:=jY q h;subst hb;rw[l6,l8]at h';exact⟨_,.inl ⟨x,none,.inr (xEv hx),rfl⟩,by simpa using h'⟩
def Mu(q:¬ good bad)(J:dA P Inv E)(h:good (kR P E bad true o s K)):∃s',iA P Inv s o s'/\good (K s'):=by
 unfold kR at h;split at h
 . split at h
   . obtain⟨s',h1,h2⟩:=xyZ (P:=P) (Inv:=Inv) q h;exact⟨s',.inl h1,h2⟩
   . exact xC0 (xMx q J h)
 . exact xFb q h
def xL4(q:¬ good bad)(J:dA P Inv E)(h:good (kR P E bad false o s K)):∃s',j7 P Inv s o s'/\good (K s'):=by unfold kR at h;split at h;split at h;exact xyZ q h;exact Zy (Wk q J h);exact(q h).elim
def V5(q:¬ good bad)(J:dA P Inv E)(h:good (tN P E bad o s K)):∃s',j7 P Inv s o s'/\good (K s'):=by unfold tN at h;split at h;rename_i b x nb hx;have ⟨hb,h⟩:=jY q h;subst hb;rw[l6,l8,lO]at h;exact⟨_,.inl ⟨x,nb,.inr (xEw hx),rfl⟩,h⟩;exact Zy (Wk q J h)
def xL3(q:¬ good bad)(J:dA P Inv E)(h:good (yw P E bad o s K)):∃s',j7 P Inv s o s'/\good (K s'):=by unfold yw at h;split at h;(rename_i b Q b1 x y hx;obtain⟨rfl,h⟩:=jY q h;obtain⟨f1,f2⟩:=xEA (nid:=s.heap.length) hx;cases Q with|true=>(have h2:good (br b1 (dc x λ x'=>fi s.tmps o.dst x' λ ts=>K ⟨ts,s.heap⟩) bad):=h;obtain⟨O,h3⟩:=jY q h2;rw[l6,l8]at h3;exact⟨_,.inl ⟨x,none,.inr (f1 rfl O),rfl⟩,by simpa using h3⟩)|false=>have h2:good (dc y λ x'=>fi s.tmps o.dst x' λ ts=>K ⟨ts,s.heap⟩):=h;rw[l6,l8]at h2;exact⟨_,.inl ⟨y,none,.inr (f2 rfl),rfl⟩,by simpa using h2⟩);split at h;exact V5 q J h;exact xL4 q J h
variable {ops:Array Oper}
def vf(Q:¬ good bad){J:Option Bool}{Step:St->Oper->St->Prop}(q:∀o s(K:St->T),good (nV P E bad J o s K)->∃s',Step s o s'/\good (K s')):
  ∀(l:List Oper)(s:St)(K:St->T),good (cT P E bad J ops l s K)->∃s',dV Step ops l s s'/\good (K s')
 |[],s,K,h=>⟨s,.nil s,h⟩
 |o::rest,s,K,h=>by
  have run:∀s:St,jo ops s.tmps o=some true->good (nV P E bad J o s λ s'=>cT P E bad J ops rest s' K)->∃s',dV Step ops (o::rest) s s'/\good (K s'):=λ s hg h=>by
   obtain⟨s1,h1,h2⟩:=q _ _ _ h;obtain⟨s2,h3,h4⟩:=vf Q q rest s1 K h2;exact⟨s2,.run hg h1 h3,h4⟩
  have skip:∀s:St,jo ops s.tmps o=some false->good (fi s.tmps o.dst (.tuple []) λ ts=>cT P E bad J ops rest ⟨ts,s.heap⟩ K)->∃s',dV Step ops (o::rest) s s'/\good (K s'):=λ s hg h=>by
   rw[l8]at h;obtain⟨s2,h3,h4⟩:=vf Q q rest _ K h;exact⟨s2,.skip hg h3,h4⟩
  unfold cT lU at h;split at h
  . rename_i hg;exact run s (by simp[jo,hg]) h
  . rename_i j O hg;split at h
    . rename_i hd;refine skip s ?_ h;have:(ops[j]?).bind (·.dst)=none:=hd;simp[jo,hg,fH,this]
    . rename_i d hd;have hd':(ops[j]?).bind (·.dst)=some d:=hd;split at h
      . rename_i ht;refine skip s ?_ h;simp[jo,hg,fH,hd',ht]
      . rename_i t ht;have V:jo ops s.tmps o=some (t==O):=by simp[jo,hg,fH,hd',ht]
        cases t with
        |true=>
         simp only[br]at h;rw[yx,Kj ht]at h;cases O with
         |true=>exact run s V h
         |false=>exact skip s V h
        |false=>
         simp only[br]at h;rw[yx,Kj ht]at h;cases O with
         |true=>exact skip s V h
         |false=>exact run s V h
      . rename_i vs ht;refine skip s ?_ h;simp[jo,hg,fH,hd',ht]
      . exact(Q h).elim
def yd(q:¬ good bad)(V:dA P Inv E){m:Nat}:
  ∀(l:List Oper)(k:Nat)(s:St)(K:St->T),good (gY P E bad ops m k l s K)->∃s',gw P Inv ops m k l s s'/\good (K s')
 |[],k,s,K,h=>⟨s,.nil k s,h⟩
 |o::rest,k,s,K,h=>by
  have O:∀(s:St)(K:St->T),good (kR P E bad true o s K)->∃s',iA P Inv s o s'/\good (K s'):=λ s K h=>Mu q V h
  unfold gY at h;split at h
  . rename_i hml;have run:∀s:St,jo ops s.tmps o=some true->good (kR P E bad true o s λ s'=>gY P E bad ops m (k+1) rest s' K)->∃s',gw P Inv ops m k (o::rest) s s'/\good (K s'):=λ s hg h=>by
     obtain⟨s1,h1,h2⟩:=O _ _ h;obtain⟨s2,h3,h4⟩:=yd q V rest (k+1) s1 K h2;exact⟨s2,.run [] hml.symm hg h1 h3,h4⟩
    have skip:∀s:St,jo ops s.tmps o=some false->good (fi s.tmps o.dst (.tuple []) λ ts=>gY P E bad ops m (k+1) rest ⟨ts,s.heap⟩ K)->∃s',gw P Inv ops m k (o::rest) s s'/\good (K s'):=λ s hg h=>by
     rw[l8]at h;obtain⟨s2,h3,h4⟩:=yd q V rest (k+1) _ K h;exact⟨s2,.skip [] hml.symm hg h3,h4⟩
    unfold lU at h;split at h
    . rename_i hg;exact run s (by simp[jo,hg]) h
    . rename_i j J hg;split at h
      . rename_i hd;refine skip s ?_ h;have:(ops[j]?).bind (·.dst)=none:=hd;simp[jo,hg,fH,this]
      . rename_i d hd;have hd':(ops[j]?).bind (·.dst)=some d:=hd;split at h
        . rename_i ht;refine skip s ?_ h;simp[jo,hg,fH,hd',ht]
        . rename_i t ht;have Q:jo ops s.tmps o=some (t==J):=by simp[jo,hg,fH,hd',ht]
          cases t with
          |true=>
           simp only[br]at h;rw[yx,Kj ht]at h;cases J with
           |true=>exact run s Q h
           |false=>exact skip s Q h
          |false=>
           simp only[br]at h;rw[yx,Kj ht]at h;cases J with
           |true=>exact skip s Q h
           |false=>exact run s Q h
        . rename_i vs ht;refine skip s ?_ h;simp[jo,hg,fH,hd',ht]
        . exact(q h).elim
  . rename_i d ds hml;split at h
    case h_2=>exact(q h).elim
    rename_i hg;rw[kF]at h;obtain⟨s1,h1,h2⟩:=O _ _ h;rw[kF]at h2;obtain⟨s2,h3,h4⟩:=yd q V rest (k+1) _ K h2;exact⟨s2,.run (d::ds) hml.symm (by simp[jo,hg]) h1 h3,h4⟩
variable {id:Nat}
def Y7(W:P.follows .mixedOrders)(O:bO Inv)(q:¬ good bad)(J:dA P Inv E){V:Bool}{K:Exit->St->T}(h:good (ou P E bad ops V s (K .normal))):bK P Inv (.region id ops V) (λ e s'=>good (K e s')) s:=by
 have hA:∀o s(K:St->T),good (nV P E bad (some true) o s K)->∃s',iA P Inv s o s'/\good (K s'):=λ o s K h=>Mu q J h;have hF:∀o s(K:St->T),good (nV P E bad (some false) o s K)->∃s',j7 P Inv s o s'/\good (K s'):=λ o s K h=>xL3 q J h;have hE:∀o s(K:St->T),good (nV P E bad none o s K)->∃s',j7 P Inv s o s'/\good (K s'):=λ o s K h=>V5 q J h;unfold ou at h;split at h;case h_1=>exact(q h).elim
 rename_i Q;cases V with|false=>(simp only[zT,if_false]at h;obtain⟨s',h1,h2⟩:=vf q hA _ _ _ h;exact QW O Q h1 h2)|true=>
 simp only[if_true]at h;split at h;rename_i hc;simp only[zf,zl]at hc;obtain⟨s1,h1,h⟩:=vf q hF _ _ _ h;obtain⟨s2,h2,h⟩:=yd q J _ _ _ _ h;exact Ki W O _ Q hc.2 hc.1 h1 h2 ZH h;split at h;rename_i hc;simp only[zf,zl]at hc;obtain⟨s1,h1,h⟩:=vf q hE _ _ _ h;obtain⟨s2,h2,h⟩:=yd q J _ _ _ _ h;exact Ki W O _ Q hc.2 hc.1 h1 h2 ZH h;split at h;rename_i hc;simp only[zf,zl]at hc;obtain⟨s1,h1,h⟩:=vf q hF _ _ _ h;split at h;case h_2=>exact(q h).elim
 rename_i Y;obtain⟨s2,h2,h⟩:=yd q J _ _ _ _ h;exact Ki W O _ Q hc.2 hc.1 h1 h2 (Zr Y) h;split at h;case isFalse=>exact(q h).elim
 rename_i hc;simp only[zf,zl]at hc;obtain⟨s1,h1,h⟩:=vf q hF _ _ _ h;split at h;case h_2=>exact(q h).elim
 rename_i Y;obtain⟨s2,h2,h⟩:=yd q J _ _ _ _ h;exact Ki W O _ Q hc.2 hc.1 h1 h2 (Zr Y) h
def xE2{c:Code}{Q:Exit->St->Prop}{s1:St}(J:jQ s s1)(h:bK P Inv c Q s1):bK P Inv c Q s:=λ w0 A0 w A M a Qc hI hp hs hQ ro q=>by obtain⟨A1,h1,_⟩:=hs.settle J;exact h w0 A0 w A1 M a Qc hI hp h1 hQ ro q
def Y8(Q:P.follows .mixedOrders)(O:bO Inv)(q:¬ good bad)(V:dA P Inv E){K:Exit->St->T}(h:good (ow P E bad ops J s (K .normal))):bK P Inv (.region id ops J) (λ e s'=>good (K e s')) s:=by unfold ow at h;split at h;exact Y7 Q O q V h;split at h;rename_i b Y ids W;have ⟨hb,h1⟩:=jY q h;subst hb;rw[kF,lO]at h1;obtain⟨e1,e2⟩:=Jz W;exact xE2 ⟨ids,rfl,e1,e2⟩ (Y7 Q O q V h1)
def xFa(Q:P.follows .mixedOrders)(O:bO Inv)(q:¬ good bad)(V:dA P Inv E){K:Exit->St->T}(h:good (wT P E bad ops J s (K .normal))):bK P Inv (.region id ops J) (λ e s'=>good (K e s')) s:=by unfold wT at h;split at h;exact Y8 Q O q V h;rename_i c cs _;split at h;rename_i W H1 hc;rw[kF,lO]at h;refine vm (s':=⟨W,H1⟩) (λ w0 A0 w A M a _ hs=>?_) (Y8 Q O q V h);obtain⟨A1,M1,h1⟩:=SR.convs (c::cs) hs;rw[hc]at h1;exact⟨A1,M1,h1⟩
variable {R:St->(Exit->St->T)->T}
def xC8(q:¬ good bad){c:Code}(hR:∀s(K:Exit->St->T),good (R s K)->bK P Inv c (λ e s'=>good (K e s')) s){n:Nat}{K:Exit->St->T}(h:good (oJ bad R n s K)):bK P Inv (.loop c) (λ e s'=>good (K e s')) s:=xG3 (λ n s=>good (oJ bad R n s K)) (dx.refl _ _) h λ n s hs=>by cases n with|zero=>exact(q hs).elim|succ n=>refine l7 (hR s _ hs) λ e s' h=>?_;cases e with|normal=>exact⟨n,s',Nat.lt_succ_self n,dx.refl _ _,h⟩|_=>exact h
variable {lp:Lp}
def RH(O:Inv.pin=E.pin)(q:¬ good bad){K:Exit->St->T}{F:T}(h:good (gZ E bad lp s K F)):good F\/∃vals H0 r,lp.run vals H0=some (true,r)/\dx Inv.pin s ⟨aX E.nt (lp.live.zip vals),H0⟩/\good (K r.eval.1 ⟨aX E.nt (lp.liveO.zip r.eval.2.1),r.eval.2.2⟩):=by
 unfold gZ at h;split at h;case h_2=>exact .inl h
 rename_i vals H0 Q;rw[kF,lO]at h;split at h;case h_2=>exact .inl h
 rename_i b r V;have ⟨h0,h1⟩:=jY q h;clear h;have ⟨hb,h⟩:=jY q h1;clear h1;subst hb;have h:=LR.run_good h;rw[kF,lO]at h;have J:=zg h0;have hw:=uW Q;rw[<-O,J]at hw;exact .inr ⟨vals,H0,r,V,hw,h⟩
def PR(J:Inv.pin=E.pin)(q:¬ good bad){d:Code}(O:lq P Inv E.nt d lp){K:Exit->St->T}(h:good (gZ E bad lp s K bad)):bK P Inv d (λ e s'=>good (K e s')) s:=by rcases RH J q h with h|⟨vals,H0,r,h1,h2,h3⟩;exact(q h).elim;exact vm h2 (l7 (O _ _ _ h1) λ e1 s1⟨g1,g2⟩=>by rw[g1,g2];exact h3)
def Za(J:Inv.pin=E.pin)(q:¬ good bad){c:Code}(O:dU P Inv E.nt c lp)(hR:∀s(K:Exit->St->T),good (R s K)->bK P Inv c (λ e s'=>good (K e s')) s):∀(n:Nat)(s:St)(K:Exit->St->T),good (ry E bad lp R n s K)->fc P Inv c (λ e s'=>good (K e s')) s|0,s,K,h=>(by rcases RH J q h with h|⟨vals,H0,r,h1,h2,h3⟩;exact(q h).elim;exact ZU h2 (Te (O _ _ _ h1) λ e1 s1⟨g1,g2⟩=>by rw[g1,g2];exact h3))|n+1,s,K,h=>by rcases RH J q h with h|⟨vals,H0,r,h1,h2,h3⟩;refine xE1 (l7 (hR s _ h) λ e s' h=>?_);(cases e with|normal=>exact Za J q O hR n s' K h|_=>exact h);exact ZU h2 (Te (O _ _ _ h1) λ e1 s1⟨g1,g2⟩=>by rw[g1,g2];exact h3)
def oH(Q:P.follows .mixedOrders)(O:bO Inv)(J:Inv.pin=E.pin)(q:¬ good bad)(V:dA P Inv E):∀(c:Code)(s:St)(K:Exit->St->T),dw P Inv E c->good (X P E bad c s K)->bK P Inv c (λ e s'=>good (K e s')) s
 |.skip,s,K,_,h=>RI h
 |.region id ops draw,s,K,_,h=>xFa Q O q V h
 |.seq a b,s,K,hl,h=>by
  unfold X at h;split at h;rename_i hr;split at h;rename_i lp W;exact PR J q (hl.2 (.seq a b) (by simp[jF,hr]) lp W) h;exact(q h).elim;rename_i hr;exact pP (l7 (oH Q O J q V a s _ (hl.sub (fun l hm=>by simp [jW,hr,hm]) (fun l hm=>by simp [jF,hr,hm])) h) fun e s' hq=>by
   cases e with
   | normal=>exact oH Q O J q V b s' K (hl.sub (λ l hm=>by simp[jW,hr,hm]) (λ l hm=>by simp[jF,hr,hm])) hq
   | _=>exact hq)
 |.cond c a b,s,K,hl,h=>by unfold X at h;split at h;rename_i lp W;exact PR J q (hl.2 (.cond c a b) (by simp[jF]) lp W) h;split at h;(case h_2=>exact(q h).elim);rename_i t ht;refine Kh ht (λ e=>?_) (λ e=>?_);subst e;change good (li E c true s λ s=>X P E bad a s K)at h;rw[Ub ht]at h;exact oH Q O J q V a s K (hl.sub (λ l hm=>by simp[jW,hm]) (λ l hm=>by simp[jF,hm])) h;subst e;change good (li E c false s λ s=>X P E bad b s K)at h;rw[Ub ht]at h;exact oH Q O J q V b s K (hl.sub (λ l hm=>by simp[jW,hm]) (λ l hm=>by simp[jF,hm])) h
 |.block id c,s,K,hl,h=>
  Rd (l7 (oH Q O J q V c s _ (hl.sub (fun l hm=>by simpa [jW] using hm) (fun l hm=>by simpa [jF] using hm)) h) fun e s' hq=>by
   cases e with
   | exit id'=>
    simp only[nm];split
    . rename_i Y;simp only[Y,if_true]at hq;exact hq
    . rename_i Y;simp only[Y,if_false]at hq;exact hq
   | _=>exact hq)
 |.loop c,s,K,hl,h=>by unfold X at h;split at h;rename_i lp W;exact Sq (Za J q (hl.1 c (by simp[jW]) lp W) (λ s K h=>oH Q O J q V c s K (hl.sub (λ l hm=>by simp[jW,hm]) (λ l hm=>by simp[jF,hm])) h) _ _ _ h);exact xC8 q (λ s K h=>oH Q O J q V c s K (hl.sub (λ l hm=>by simp[jW,hm]) (λ l hm=>by simp[jF,hm])) h) h
 |.exit id,s,K,_,h=>Tp h
 |.ret,s,K,_,h=>UF h
 |.rangeFunc g ps a b,s,K,hl,h=>by unfold X at h;split at h;rename_i lp W;exact PR J q (hl.2 (.rangeFunc g ps a b) (by simp[jF]) lp W) h;exact(q h).elim
 |.scope _,s,K,_,h=>(q (by simpa[X]using h)).elim
 |.label _,s,K,_,h=>(q (by simpa[X]using h)).elim
 |.goto _,s,K,_,h=>(q (by simpa[X]using h)).elim
 |.refuse _,s,K,_,h=>(q (by simpa[X]using h)).elim
end sound
def je(P:Program)(ls:TypeId->Bool)(s:St):ResultVar->Option (Bool×AV)|.tmp t=>some (true,s.tmps.getD t .top)|.cell a t=>match bN P t with|some ti=>jU P ls t s.heap ti (s.tmps.getD a .top)|none=>none
def YE{ls:TypeId->Bool}{r:ResultVar}{x:AV}(hx:je P ls s r=some (true,x)):gu P s r=some x:=by cases r with|tmp t=>simpa[je,gu]using hx|cell a t=>simp only[je]at hx;simp only[gu];split at hx;(case h_2=>simp at hx);rename_i ti q;simp only[q];exact YL hx
def jd(P:Program)(ls:TypeId->Bool)(s:St):List ResultVar->Option (Bool×List AV)|[]=>some (true,[])|r::rs=>match je P ls s r with|some (b,x)=>(match iG s.heap eG x with|some (b',y)=>(match jd P ls s rs with|some (b'',ys)=>some (b&&(b'&&b''),y::ys)|none=>none)|none=>none)|none=>none
def PZ{ls:TypeId->Bool}:∀{rs:List ResultVar}{ys:List AV},jd P ls s rs=some (true,ys)->iF P s rs=some ys
 |[],ys,h=>by simp only[jd,z6,zb,true_and]at h;subst h;rfl
 |r::rs,ys,h=>by
  unfold jd at h;split at h
  case h_2=>simp at h
  rename_i b x hx;split at h
  case h_2=>simp at h
  rename_i b' y hy;split at h
  case h_2=>simp at h
  rename_i q zs hz;simp only[z6,zb,zf]at h;obtain⟨⟨rfl,rfl,rfl⟩,rfl⟩:=h;unfold iF;simp only[YE hx,PZ hz,Fk _ _ _ hy]
def oV(P:Program)(ls:TypeId->Bool)(rs:List ResultVar)(s:St):Option AV:=match jd P ls s rs with|some (b,xs)=>br b (jN xs λ ys=>some (o3 ys)) none|none=>none
def qe(P:Program)(ls:TypeId->Bool)(rs:List ResultVar):Exit->St->Option AV|.ret,s=>oV P ls rs s|.normal,s=>oV P ls rs s|_,_=>none
def XF(P:Program)(E:dp)(fn:Func)(c:Code)(args:List AV):Option AV:=jN (args++List.replicate (fn.ntmps - args.length) (.tuple [])) λ ts=>X P E none c ⟨ts,[]⟩ (qe P E.ls fn.results.toList)
variable {args:List AV}
def xEB{E:dp}(V:P.follows .mixedOrders)(O:bO Inv)(Q:Inv.pin=E.pin)(W:dA P Inv E){f:FuncId}{fn:Func}{r:AV}(hf:P.funcs[f]?=some fn)(hb:fn.body=some c)(q:(fn.name == "runtime.NumGoroutine")=false)(hl:dw P Inv E c)(h:XF P E fn c args=some r):Good P Inv f args r:=by refine U3 O hf hb q ?_;unfold XF at h;rw[kF]at h;refine l7 (oH (good:=λ t=>t=some r) V O Q Ψ W c _ _ hl h) λ e s hq=>?_;(have J:∀s,oV P E.ls fn.results.toList s=some r->eE P fn.results.toList s=some r:=λ s h=>by unfold oV at h;split at h;(case h_2=>simp at h);rename_i b xs hx;obtain⟨rfl,h⟩:=jY (good:=λ t=>t=some r) Ψ h;rw[kF]at h;unfold eE;rw[PZ hx];exact h);cases e with|ret=>exact⟨.inl rfl,J s hq⟩|normal=>exact⟨.inr rfl,J s hq⟩|_=>simp[qe]at hq
def dt(P:Program)(s:St):List ResultVar->Option (List AV)|[]=>some []|r::rs=>match gu P s r with|some x=>(match dt P s rs with|some xs=>some (x::xs)|none=>none)|none=>none
variable {M:Id->Option MB}{a:Act}{w0:World}
def Zu{w:World}{A0:Cx}{A:Nat->Prop}(hs:SR w0 A0 w A M s a):∀{rs:List ResultVar}{xs:List AV},dt P s rs=some xs->
  ∃vs,(rs.mapM (resF a.tmps)).run P w=.ok vs w/\RC w A M vs xs
 |[],xs,h=>by
  simp only[dt,z6]at h;subst h;exact⟨[],by simp,rfl,by simp⟩
 |r::rs,xs,h=>by
  unfold dt at h;split at h
  case h_2=>simp at h
  rename_i x hx;split at h
  case h_2=>simp at h
  rename_i ys O;cases h;obtain⟨v,hv,J⟩:=ZX hs hx;obtain⟨vs,Q,q⟩:=Zu hs O;refine⟨v::vs,?_,by simp[q.1],λ i hi=>?_⟩
  . rw[List.mapM_cons];simp only[Sem.run_bind,hv,Q,Result.andThen_ok,Sem.run_pure]
  . cases i with
    |zero=>simpa using J
    |succ i=>have:=q.2 i (by simp at hi;omega);simpa using this
def Jl{w:World}{A0:Cx}{A:Nat->Prop}(hs:SR w0 A0 w A M s a){fn:Func}(h:dt P s fn.results.toList=some xs):∃v,(results fn a.tmps).run P w=.ok v w/\aD w A M v (o3 xs):=by obtain⟨vs,J,q⟩:=Zu (P:=P) hs h;refine⟨if h:vs.toArray.size=1 then vs.toArray[0]else .tuple vs.toArray,?_,?_⟩;rw[ZY,Array.mapM_eq_mapM_toList];simp only[Sem.run_bind,Sem.run_map,J,Result.andThen_ok,Sem.run_pure];have hl:=q.1;have hr:=q.2;match vs,xs,hl,hr with|[v],[x],_,hr=>simpa[o3]using hr 0 Ψ|[],[],_,_=>simpa[o3]using aD.tuple (w:=w) (A:=A) (M:=M) #[] [] rfl Ψ|v1::v2::vs,x1::x2::xs,hl,hr=>(have hne:¬ (v1::v2::vs).toArray.size=1:=by simp);rw[dif_neg hne];simp only[o3];refine .tuple _ _ (by simpa using hl) λ i hi=>?_;rw[x5];exact hr i hi
variable {H':List aC}
def xHW(ac:bO Inv){f:FuncId}{fn:Func}{r:AV}(hf:P.funcs[f]?=some fn)(hb:fn.body=some c)(Q:(fn.name == "runtime.NumGoroutine")=false)(ab:H.length=Inv.pin)(h:bK P Inv c (λ e s=>(e=.ret\/e=.normal)/\∃xs ids,dt P s fn.results.toList=some xs/\dZ ids/\gq Inv.pin 0 ids/\jc Inv.pin (dS Inv.pin ids s.heap) s.heap 0 ids=some H'/\ren (dS Inv.pin ids s.heap) (o3 xs)=r) ⟨args++List.replicate (fn.ntmps - args.length) (.tuple []),H⟩):bH P Inv f args H r H':=by
 refine⟨⟨fn,hf,by rw[hb];rfl,Q⟩,λ w0 w A M vs hI O hR J=>?_⟩;refine callsIn_wide.1 (callsIn_of_wp_marks (F:=Fence.wide) (n:=0) hf hb trivial ?_);refine h w0 ⟨A,w,A,M,H.length,λ _=>False⟩ w A M _ _ hI (by simp only[];omega) ⟨O,λ _ _=>Iff.rfl,?_,λ t ht=>?_,hR,er.nil,Ev.refl (C:=⟨A,w,A,M,H.length,λ _=>False⟩)⟩ ?_ none (λ _=>rfl);simp[J.1];simp only[z8,List.length_replicate]at ht;have hl:=J.1;by_cases V:t<args.length;have e1:(vs.toArray++Array.replicate (fn.ntmps - vs.toArray.size) undef).getD t undef=vs.getD t undef:=by(have:t<vs.length:=Ω);simp[z7,Array.getElem?_append,this]
 have e2:(args++List.replicate (fn.ntmps - args.length) (AV.tuple [])).getD t .top=args.getD t .top:=by simp[z7,zP,V]
 rw[e1,e2];exact J.2 t V;have h1:¬ t<vs.length:=Ω
 have e1:(vs.toArray++Array.replicate (fn.ntmps - vs.toArray.size) undef).getD t undef=undef:=by(have h2:t - vs.length<fn.ntmps - vs.length:=Ω);simp[Array.getElem?_append,h1,h2]
 have e2:(args++List.replicate (fn.ntmps - args.length) (AV.tuple [])).getD t .top=.tuple []:=by(have h2:t - args.length<fn.ntmps - args.length:=Ω);simp[z7,zP,V,h2]
 rw[e1,e2];exact .tuple #[] [] rfl Ψ;rintro e s' a' w' ⟨he,xs,ids,hx,Y,aa,Z,rfl⟩ ⟨A',M',q⟩;have:LeavesInM Fence.wide 0 P fn a'.tmps (λ e w'=>∃v A' M',e=.returned v/\Below w0.heap.size w0 w'/\(∀b,b<w0.heap.size->(A' b↔A b))/\Ev ⟨A,w,A,M,H.length,λ _=>False⟩ w' A' M'/\HR w' A' M' w0.heap.size H'/\aD w' A' M' v (ren (dS Inv.pin ids s'.heap) (o3 xs))) a'.defers .returning w':=Fj (λ _ h=>h) q λ w' q=>by obtain⟨v,hv,W⟩:=Jl (P:=P) q hx;obtain⟨M2,g1,g2,g3,g4⟩:=q.heap.norm Y aa Z;exact⟨v,hv,v,A',M2,rfl,q.base,q.outer,q.ev.norm (by simp only[];omega) g3 g4,g1,W.ren g2⟩
 rcases he with rfl|rfl<;>exact this
def gW(P:Program)(ls:TypeId->Bool)(s:St):List ResultVar->Option (Bool×List AV)|[]=>some (true,[])|r::rs=>match je P ls s r with|some (b,x)=>(match gW P ls s rs with|some (b',xs)=>some (b&&b',x::xs)|none=>none)|none=>none
def YP{ls:TypeId->Bool}:∀{rs:List ResultVar}{ys:List AV},gW P ls s rs=some (true,ys)->dt P s rs=some ys
 |[],ys,h=>by simp only[gW,z6,zb,true_and]at h;subst h;rfl
 |r::rs,ys,h=>by
  unfold gW at h;split at h
  case h_2=>simp at h
  rename_i b x hx;split at h
  case h_2=>simp at h
  rename_i b' zs hz;simp only[z6,zb,zf]at h;obtain⟨⟨rfl,rfl⟩,rfl⟩:=h;unfold dt;simp only[YE hx,YP hz]
def sm(P:Program)(pin:Nat)(ls:TypeId->Bool)(rs:List ResultVar)(s:St):Option (AV×List aC):=match gW P ls s rs with|some (b,xs)=>(br b (match dZ (gather s.heap 1000 (List.range pin++refsOf.refsL xs) [])&&gq pin 0 (gather s.heap 1000 (List.range pin++refsOf.refsL xs) []) with|true=>(match jc pin (dS pin (gather s.heap 1000 (List.range pin++refsOf.refsL xs) []) s.heap) s.heap 0 (gather s.heap 1000 (List.range pin++refsOf.refsL xs) [])with|some H'=>dc (ren (dS pin (gather s.heap 1000 (List.range pin++refsOf.refsL xs) []) s.heap) (o3 xs)) λ r=>kB H' λ H'=>some (r,H')|none=>none)|false=>none) none)|none=>none
def CF(P:Program)(pin:Nat)(ls:TypeId->Bool)(rs:List ResultVar):Exit->St->Option (AV×List aC)|.ret,s=>sm P pin ls rs s|.normal,s=>sm P pin ls rs s|_,_=>none
def mQ(P:Program)(E:dp)(fn:Func)(c:Code)(args:List AV)(H:List aC):Option (AV×List aC):=jN (args++List.replicate (fn.ntmps - args.length) (.tuple [])) λ ts=>X P E none c ⟨ts,H⟩ (CF P E.pin E.ls fn.results.toList)
def xBr{E:dp}(V:P.follows .mixedOrders)(Q:bO Inv)(q:Inv.pin=E.pin)(Y:dA P Inv E){f:FuncId}{fn:Func}{r:AV}(hH:H.length=E.pin)(hf:P.funcs[f]?=some fn)(hb:fn.body=some c)(J:(fn.name == "runtime.NumGoroutine")=false)(hl:dw P Inv E c)(h:mQ P E fn c args H=some (r,H')):bH P Inv f args H r H':=by refine xHW Q hf hb J (by rw[hH,q]) ?_;unfold mQ at h;rw[kF]at h;refine l7 (oH (good:=λ t=>t=some (r,H')) V Q q Ψ Y c _ _ hl h) λ e s hq=>?_;(have O:∀s,sm P E.pin E.ls fn.results.toList s=some (r,H')->∃xs ids,dt P s fn.results.toList=some xs/\dZ ids/\gq Inv.pin 0 ids/\jc Inv.pin (dS Inv.pin ids s.heap) s.heap 0 ids=some H'/\ren (dS Inv.pin ids s.heap) (o3 xs)=r:=λ s h=>by unfold sm at h;split at h;(case h_2=>simp at h);rename_i b xs hx;have ⟨Z,h1⟩:=jY (good:=λ t=>t=some (r,H')) Ψ h;clear h;have h:=h1;clear h1;subst Z;generalize aa:gather s.heap 1000 (List.range E.pin++refsOf.refsL xs) []=ids at h;split at h;(case h_2=>simp at h);rename_i hc;simp only[zf]at hc;split at h;(case h_2=>simp at h);rename_i H1 W;rw[l6,lO]at h;cases h;rw[q];exact⟨xs,ids,YP hx,hc.1,hc.2,W,rfl⟩);cases e with|ret=>exact⟨.inl rfl,O s hq⟩|normal=>exact⟨.inr rfl,O s hq⟩|_=>simp[CF]at hq
def iterN{σ ρ:Type}(step:σ->Option (σ⊕ρ)):Nat->σ->Option ρ|0,_=>none|n+1,s=>match step s with|some (.inl s')=>iterN step n s'|some (.inr r)=>some r|none=>none
open Classical in
noncomputable def aB{σ ρ:Type}(step:σ->Option (σ⊕ρ))(s:σ):Option ρ:=
 if h:∃r n,iterN step n s=some r then some h.choose else none
def Q9{σ ρ:Type}{step:σ->Option (σ⊕ρ)}:∀{n m:Nat}{s:σ}{r:ρ},iterN step n s=some r->n<=m->iterN step m s=some r|0,_,_,_,h,_=>by simp[iterN]at h|n+1,0,_,_,_,hm=>by omega|n+1,m+1,s,r,h,hm=>by simp only[iterN]at h|-;cases hs:step s with|none=>rw[hs]at h;simp at h|some x=>rw[hs]at h;cases x with|inl s'=>exact Q9 (n:=n) h Ω|inr r'=>exact h
def Fu{σ ρ:Type}{step:σ->Option (σ⊕ρ)}{s:σ}{r:ρ}:aB step s=some r↔∃n,iterN step n s=some r:=by unfold aB;constructor;intro h;split at h;rename_i q;obtain⟨n,hn⟩:=q.choose_spec;simp only[z6]at h;exact⟨n,by rw[hn,h]⟩;simp at h;rintro⟨n,hn⟩;have q:∃r n,iterN step n s=some r:=⟨r,n,hn⟩;rw[dif_pos q];obtain⟨n',J⟩:=q.choose_spec;have h1:=Q9 hn (Nat.le_max_left n n');have h2:=Q9 J (Nat.le_max_right n n');rw[h1]at h2;exact h2.symm
def en{σ ρ:Type}{step:σ->Option (σ⊕ρ)}{s s':σ}(h:step s=some (.inl s')):aB step s=aB step s':=by apply Option.ext;intro r;rw[Fu,Fu];constructor;(rintro⟨n,hn⟩;cases n with|zero=>simp[iterN]at hn|succ n=>simp only[iterN,h]at hn;exact⟨n,hn⟩);rintro⟨n,hn⟩;exact⟨n+1,by simp only[iterN,h];exact hn⟩
def cR{σ ρ:Type}{step:σ->Option (σ⊕ρ)}{s:σ}{r:ρ}(h:step s=some (.inr r)):aB step s=some r:=Fu.2 ⟨1,by simp only[iterN,h]⟩
def Tq(h:bK P Inv c (λ e s1=>∃s',dx Inv.pin s1 s'/\Q e s') s):bK P Inv c Q s:=λ w0 A0 w A M a Qc hI hp hs hQ=>h w0 A0 w A M a Qc hI hp hs λ e s1 a' w'⟨s',hw,hq⟩⟨A',M',hs'⟩=>by obtain⟨A'',M'',q⟩:=hw w0 A0 w' A' M' a' hp hs';exact hQ e s' a' w' hq ⟨A'',M'',q⟩
def xG1(h:fc P Inv c (λ e s1=>∃s',dx Inv.pin s1 s'/\Q e s') s):fc P Inv c Q s:=λ w0 A0 w A M a Qc hI hp hs hQ=>h w0 A0 w A M a Qc hI hp hs λ e s1 a' w'⟨s',hw,hq⟩⟨A',M',hs'⟩=>by obtain⟨A'',M'',q⟩:=hw w0 A0 w' A' M' a' hp hs';exact hQ e s' a' w' hq ⟨A'',M'',q⟩
def XR(P:Program)(E:dp)(live liveO:List Nat)(conv:List (Nat×Nat×TypeId))(c:Code)(vals:List AV)(H:List aC):Option (Exit×List AV×List aC):=jN (aX E.nt (live.zip vals)) λ ts=>X P E none c ⟨ts,H⟩ λ e s'=>match e with|.normal=>(match gx E.pin conv live s' with|some (vs,H')=>jN vs λ vs=>kB H' λ H'=>br (Nat.beq s'.tmps.length E.nt) (some (.normal,vs,H')) none|none=>none)|e=>match gx E.pin [] liveO s' with|some (vs,H')=>jN vs λ vs=>kB H' λ H'=>br (Nat.beq s'.tmps.length E.nt) (some (e,vs,H')) none|none=>none
def XC(P:Program)(E:dp)(live liveO:List Nat)(c:Code)(vals:List AV)(H:List aC):Option (Exit×List AV×List aC):=jN (aX E.nt (live.zip vals)) λ ts=>X P E none c ⟨ts,H⟩ λ e s'=>match gx E.pin [] liveO s' with|some (vs,H')=>jN vs λ vs=>kB H' λ H'=>br (Nat.beq s'.tmps.length E.nt) (some (e,vs,H')) none|none=>none
variable {live liveO:List Nat}
def Zp{E:dp}(Q:P.follows .mixedOrders)(O:bO Inv)(q:Inv.pin=E.pin)(V:dA P Inv E)(W:dw P Inv E c){vals:List AV}{r:LR}(h:XC P E live liveO c vals H=some r.eval):bK P Inv c (λ e1 s1=>e1=r.eval.1/\s1=⟨aX E.nt (liveO.zip r.eval.2.1),r.eval.2.2⟩) ⟨aX E.nt (live.zip vals),H⟩:=by unfold XC at h;rw[kF]at h;refine Tq (l7 (oH (good:=λ t=>t=some r.eval) Q O q Ψ V c _ _ W h) λ e s' hq=>?_);split at hq;(case h_2=>simp at hq);rename_i Y H1 J;rw[kF,lO]at hq;obtain⟨h1,h2⟩:=jY (good:=λ t=>t=some r.eval) Ψ hq;have hw:=uW J;rw[zg h1,<-q]at hw;simp only[z6]at h2;exact⟨_,hw,by rw[<-h2],by rw[<-h2]⟩
def encR{σ ρ:Type}(L:σ->List AV×List aC)(out:ρ->LR):σ⊕ρ->Exit×List AV×List aC|.inl s=>(.normal,(L s).1,(L s).2)|.inr r=>(out r).eval
def xyb{σ ρ:Type}{E:dp}(W:P.follows .mixedOrders)(V:bO Inv)(J:Inv.pin=E.pin)(Y:dA P Inv E)(Z:dw P Inv E c){conv:List (Nat×Nat×TypeId)}{step:σ->Option (σ⊕ρ)}(L:σ->List AV×List aC)(out:ρ->LR)
  (O:∀r,(out r).eval.1≠.normal)
  (q:∀s r,step s=some r->XR P E live liveO conv c (L s).1 (L s).2=some (encR L out r)) {s:σ} {r:ρ} (h:aB step s=some r):
  fc P Inv c (λ e1 s1=>e1=(out r).eval.1/\s1=⟨aX E.nt (liveO.zip (out r).eval.2.1),(out r).eval.2.2⟩) ⟨aX E.nt (live.zip (L s).1),(L s).2⟩:=by
 obtain⟨n,hn⟩:=Fu.1 h;refine xG1 (Re (λ n s=>∃b,iterN step n b=some r/\s=⟨aX E.nt (live.zip (L b).1),(L b).2⟩) (n0:=n) (dx.refl _ _) ⟨s,hn,rfl⟩ ?_)
 rintro n s1 ⟨b,hb,rfl⟩;have run:∀(e0:Exit)(vs:List AV)(H':List aC),XR P E live liveO conv c (L b).1 (L b).2=some (e0,vs,H')->bK P Inv c (λ e s'=>e=e0/\dx Inv.pin s' ⟨aX E.nt ((match e with|.normal=>live|_=>liveO).zip vs),H'⟩) ⟨aX E.nt (live.zip (L b).1),(L b).2⟩:=λ e0 vs H' hx=>by
  unfold XR at hx;rw[kF]at hx;refine l7 (oH (good:=λ t=>t=some (e0,vs,H')) W V J Ψ Y c _ _ Z hx) λ e s' hq=>?_
  have key:∀ (cv:List (Nat×Nat×TypeId)) (lv:List Nat) (e':Exit),(match gx E.pin cv lv s' with
    |some (vs,H')=>jN vs λ vs=>kB H' λ H'=>br (Nat.beq s'.tmps.length E.nt) (some (e',vs,H')) none
    |none=>none)=some (e0,vs,H')->e'=e0/\dx Inv.pin s' ⟨aX E.nt (lv.zip vs),H'⟩:=fun cv lv e' hq=>by
   split at hq
   case h_2=>simp at hq
   rename_i aa H1 Q;rw[kF,lO]at hq;obtain⟨h1,h2⟩:=jY (good:=λ t=>t=some (e0,vs,H')) Ψ hq
   simp only[z6,zb]at h2;obtain⟨rfl,rfl,rfl⟩:=h2;have hw:=uW Q;rw[zg h1,<-J]at hw;exact⟨rfl,hw⟩
  cases e with
  |normal=>exact key conv live .normal hq
  |exit id=>exact key [] liveO (.exit id) hq
  |ret=>exact key [] liveO .ret hq
  |goto l=>exact key [] liveO (.goto l) hq
  |panic ch=>exact key [] liveO (.panic ch) hq
  |outgrown=>exact key [] liveO .outgrown hq
 cases n with
 |zero=>simp[iterN]at hb
 |succ n=>
  unfold iterN at hb;split at hb
  . rename_i b' hs;have hx:=q b _ hs;refine l7 (run _ _ _ hx) λ e s'⟨he,hw⟩=>?_
    subst he;exact⟨n,_,Nat.lt_succ_self n,hw,b',hb,rfl⟩
  . rename_i r' hs;simp only[z6]at hb;subst hb;have hx:=q b _ hs;refine l7 (run _ _ _ hx) λ e s'⟨he,hw⟩=>?_
    have hne:=O r';rw[<-he]at hne;have:∃s'',dx Inv.pin s' s''/\e=(out r').eval.1/\s''=⟨aX E.nt (liveO.zip (out r').eval.2.1),(out r').eval.2.2⟩:=by
     refine⟨_,?_,he,rfl⟩;cases e<;>first|exact(hne rfl).elim|exact hw
    cases e with
    |normal=>exact(hne rfl).elim
    |_=>exact this
  . simp at hb
end Go.Sim
