/- Part 6. -/
import Derived.Test.YtodofdnlhoknhaaGreatDoorTS5
set_option linter.all false
noncomputable section
namespace Go.Sim
open Go.RowKit
def jj(r:AV->Option (Bool×AV)):List AV->Option (Bool×List AV)|[]=>some (true,[])|x::xs=>match r x with|some (b,y)=>(match jj r xs with|some (c,ys)=>some (b&&c,y::ys)|none=>none)|none=>none
def k9(r:AV->Option (Bool×AV)):AV->Option (Bool×AV)|.agg cs=>(match jj r cs with|some (b,ds)=>some (b,.agg ds)|none=>none)|x=>r x
def iM(H:List aC):Nat->AV->Option (Bool×AV)|0,x=>some (x.pure,x)|n+1,x=>match x with|.agg cs=>(match jj (iM H n) cs with|some (b,ds)=>some (b,.agg ds)|none=>none)|.func f cs=>(match Nat.beq f vpF with|true=>none|false=>match jj (iM H n) cs with|some (b,ds)=>some (b,.func f ds)|none=>none)|.own id ver i j=>(match ij H id ver with|some (bv,bx)=>(match bW bx.ty with|true=>none|false=>match bx.pm with|true=>some (bv&&decide (i<bx.xs.length),.eptr bx.sz bx.xs i j)|false=>match jj (k9 (iM H n)) bx.xs with|some (b,ys)=>some (bv&&(b&&decide (i<bx.xs.length)),.eptr bx.sz ys i j)|none=>none)|none=>none)|.osl id ver off len=>(match ij H id ver with|some (bv,bx)=>(match bW bx.ty with|true=>(match bx.pm with|true=>some (bv&&(decide (off+len<=bx.xs.length)&&en bx ((bx.xs.drop off).take len)),.list bx.sz ((bx.xs.drop off).take len))|false=>none)|false=>match bx.pm with|true=>some (bv&&decide (off+len<=bx.xs.length),.list bx.sz ((bx.xs.drop off).take len))|false=>match jj (k9 (iM H n)) ((bx.xs.drop off).take len)with|some (b,ys)=>some (bv&&(b&&decide (off+len<=bx.xs.length)),.list bx.sz ys)|none=>none)|none=>none)|x=>some (x.pure,x)
variable {q:AV->Option AV}
def yw{r:AV->Option (Bool×AV)}(h:∀x y,r x=some (true,y)->q x=some y):∀{xs ys:List AV},jj r xs=some (true,ys)->eJ q xs=some ys
 |[],ys,e=>by simp only[jj,z6,zb,true_and]at e;subst e;rfl
 |x::xs,ys,e=>by
  unfold jj at e;split at e
  case h_2=>simp at e
  rename_i b y hx;split at e
  case h_2=>simp at e
  rename_i c zs hz;simp only[z6,zb,zf]at e;obtain⟨⟨rfl,rfl⟩,rfl⟩:=e;unfold eJ;rw[h _ _ hx,yw h hz]
def yF{r:AV->Option (Bool×AV)}:∀{xs ys:List AV},jj r xs=some (true,ys)->∀x,x∈xs->∃y,r x=some (true,y)
 |[],ys,e,x,hx=>by simp at hx
 |x::xs,ys,e,z,hz=>by
  unfold jj at e;split at e
  case h_2=>simp at e
  rename_i b y hx;split at e
  case h_2=>simp at e
  rename_i c zs q;simp only[z6,zb,zf]at e;obtain⟨⟨rfl,rfl⟩,rfl⟩:=e;rcases zC.1 hz with rfl|hz
  . exact⟨_,hx⟩
  . exact yF q z hz
variable {H:List aC}{n:Nat}
def SF:∀{xs:List AV},AV.pures xs->eJ (resolve H n) xs=some xs|[],_=>rfl|x::xs,h=>by simp only[AV.pures,zf]at h;unfold eJ;rw[FB h.1,SF h.2]
def xzl{r:AV->Option (Bool×AV)}(h:∀x y,r x=some (true,y)->q x=some y)(x y:AV)(e:k9 r x=some (true,y)):lK q x=some y:=by(cases x<;>first|exact h _ _ e|skip);simp only[k9]at e;split at e;(case h_2=>simp at e);rename_i b ds hd;cases e;simp only[lK,yw h hd]
def F1{H:List aC}:∀(n:Nat)(x y:AV),iM H n x=some (true,y)->resolve H n x=some y
 |0,x,y,e=>by
  simp only[iM,z6,zb]at e;rw[<-e.2];exact FB e.1
 |n+1,x,y,e=>by
  have ih:=F1 (H:=H) n;unfold iM at e;split at e
  . rename_i cs;split at e
    case h_2=>simp at e
    rename_i b ds hd;simp only[z6,zb]at e;obtain⟨rfl,rfl⟩:=e;have hm:=yw ih hd;by_cases hp:AV.pures cs=true
    . rw[SF hp]at hm;cases hm;exact FB (by simpa[AV.pure]using hp)
    . unfold resolve;rw[if_neg (by simpa[AV.pure]using hp)]
      simp only[hm]
  . rename_i f cs;split at e
    . simp at e
    rename_i Q;split at e
    case h_2=>simp at e
    rename_i b ds hd;simp only[z6,zb]at e;obtain⟨rfl,rfl⟩:=e;have hm:=yw ih hd;by_cases hp:AV.pures cs=true
    . rw[SF hp]at hm;cases hm;exact FB (by simpa[AV.pure]using hp)
    . unfold resolve;rw[if_neg (by simpa[AV.pure]using hp)]
      simp only[Q,hm]
  . rename_i id ver i j;split at e
    case h_2=>simp at e
    rename_i bv bx hb;unfold resolve;rw[if_neg (by simp[AV.pure])]
    split at e
    . simp at e
    rename_i J;split at e
    . rename_i q;simp only[z6,zb,zf,zl]at e;obtain⟨⟨rfl,h2⟩,rfl⟩:=e;simp only[lW hb,gh,q,if_true];exact if_pos ⟨h2,J⟩
    . rename_i q;split at e
      case h_2=>simp at e
      rename_i b ys hy;simp only[z6,zb,zf,zl]at e;obtain⟨⟨rfl,rfl,h2⟩,rfl⟩:=e;simp only[lW hb,gh,q,zT,if_false,yw (xzl ih) hy];exact if_pos ⟨h2,J⟩
  . rename_i id ver off len;split at e
    case h_2=>simp at e
    rename_i bv bx hb;unfold resolve;rw[if_neg (by simp[AV.pure])]
    split at e
    . split at e
      case h_2=>simp at e
      rename_i q;simp only[z6,zb,zf,zl]at e;obtain⟨⟨rfl,h2,h3⟩,rfl⟩:=e;simp only[lW hb,gh,q,if_true];exact if_pos ⟨h2,h3⟩
    rename_i J;have O:en bx ((bx.xs.drop off).take len)=true:=by unfold en;rw[J]
    split at e
    . rename_i q;simp only[z6,zb,zf,zl]at e;obtain⟨⟨rfl,h2⟩,rfl⟩:=e;simp only[lW hb,gh,q,if_true];exact if_pos ⟨h2,O⟩
    . rename_i q;split at e
      case h_2=>simp at e
      rename_i b ys hy;simp only[z6,zb,zf,zl]at e;obtain⟨⟨rfl,rfl,h2⟩,rfl⟩:=e;simp only[lW hb,gh,q,zT,if_false,yw (xzl ih) hy];exact if_pos ⟨h2,O⟩
  . simp only[z6,zb]at e;rw[<-e.2];exact FB e.1
def sv(H:List aC):Id->Option aC|.b n=>H[n]?|.r n i j=>match H[n]? with|some bx=>(match de bx.ty j,bx.pm with|true,true=>some ⟨2*((bx.xs.getD i .top).cells.getD j .top).toList.length,fF bx.ty,bM bx.ty,((bx.xs.getD i .top).cells.getD j .top).toList,bx.frz,true⟩|_,_=>none)|none=>none
def mR(H:List aC):Nat->AV->List Nat|0,_=>[]|n+1,x=>match x with|.agg cs=>cs.flatMap (mR H n)|.func _ cs=>cs.flatMap (mR H n)|.own id _ _ _=>id.base::(match sv H id with|some bx=>(match bx.pm with|true=>[]|false=>bx.xs.flatMap λ(e:AV)=>e.cells.flatMap (mR H n))|none=>[])|.osl id _ off len=>id.base::(match sv H id with|some bx=>(match bx.pm with|true=>[]|false=>((bx.xs.drop off).take len).flatMap λ(e:AV)=>e.cells.flatMap (mR H n))|none=>[])|_=>[]
def uX{α β:Type}{f g:α->List β}:∀{l:List α},(∀x,x∈l->f x=g x)->l.flatMap f=l.flatMap g|[],_=>rfl|x::xs,h=>by rw[zR,zR,h x Ψ,uX λ y hy=>h y (by simp[hy])]
def Q0{α β:Type}{f:α->List β}:∀{l:List α},(∀x,x∈l->f x=[])->l.flatMap f=[]|[],_=>rfl|x::xs,h=>by rw[zR,h x Ψ,Q0 λ y hy=>h y (by simp[hy])];rfl
variable {xs:List AV}
def UF(h:AV.pures xs){x:AV}(hx:x∈xs):x.pure:=by rw[ST,zI]at h;exact h x hx
theorem S0{id:Id}{ver:Nat}{b:Bool}{bx:aC}(h:ij H id ver=some (b,bx)):sv H id=some bx:=by unfold ij sv at *;grind
def xwE{r:AV->Option (Bool×AV)}{e y:AV}(h:k9 r e=some (true,y)):∀c,c∈e.cells->∃d,r c=some (true,d):=by(intro c hc;cases e<;>first|(simp only[AV.cells,zv]at hc;subst hc;exact⟨_,h⟩)|skip);simp only[k9]at h;split at h;(case h_2=>simp at h);rename_i b ds hd;simp only[z6,zb]at h;obtain⟨rfl,_⟩:=h;exact yF hd c hc
def Kn{H:List aC}:∀(n:Nat)(x y:AV),iM H n x=some (true,y)->aQ H n x=mR H n x
 |0,x,y,e=>by simp[aQ,mR]
 |n+1,x,y,e=>by
  have ih:=Kn (H:=H) n;unfold iM at e;split at e
  . rename_i cs;split at e
    case h_2=>simp at e
    rename_i b ds hd;simp only[z6,zb]at e;obtain⟨rfl,rfl⟩:=e;have h1:cs.flatMap (aQ H n)=cs.flatMap (mR H n):=uX λ c hc=>by obtain⟨d,Q⟩:=yF hd c hc;exact ih c d Q
    unfold aQ;simp only[mR];split
    . rename_i hp;rw[<-h1,Q0 λ c hc=>Sc (UF (by simpa[AV.pure]using hp) hc)]
    . exact h1
  . rename_i f cs;split at e
    . simp at e
    rename_i V;split at e
    case h_2=>simp at e
    rename_i b ds hd;simp only[z6,zb]at e;obtain⟨rfl,rfl⟩:=e;have h1:cs.flatMap (aQ H n)=cs.flatMap (mR H n):=uX λ c hc=>by obtain⟨d,Q⟩:=yF hd c hc;exact ih c d Q
    unfold aQ;simp only[mR];split
    . rename_i hp;rw[<-h1,Q0 λ c hc=>Sc (UF (by simpa[AV.pure]using hp) hc)]
    . exact h1
  . rename_i id ver i j;split at e
    case h_2=>simp at e
    rename_i bv bx hb;unfold aQ;rw[if_neg (by simp[AV.pure])]
    split at e
    . simp at e
    have J:bv=true:=by
     split at e
     . simp only[z6,zb,zf]at e;exact e.1.1
     . split at e
       case h_2=>simp at e
       simp only[z6,zb,zf]at e;exact e.1.1
    subst J;simp only[mR,S0 hb,(lf (lW hb)).1];congr 1;split at e
    . rename_i q;simp only[q,if_true]
    . rename_i q;split at e
      case h_2=>simp at e
      rename_i b ys hy;simp only[z6,zb,zf]at e;obtain⟨⟨_,rfl,_⟩,_⟩:=e;simp only[q,zT,if_false];exact uX λ e he=>uX λ c hc=>by
       obtain⟨y,O⟩:=yF hy e he;obtain⟨d,hd⟩:=xwE O c hc;exact ih c d hd
  . rename_i id ver off len;split at e
    case h_2=>simp at e
    rename_i bv bx hb;unfold aQ;rw[if_neg (by simp[AV.pure])]
    split at e
    . split at e
      case h_2=>simp at e
      rename_i q;simp only[z6,zb,zf]at e;obtain⟨⟨rfl,_⟩,_⟩:=e;simp only[mR,S0 hb,(lf (lW hb)).1,q,if_true]
    have J:bv=true:=by
     split at e
     . simp only[z6,zb,zf]at e;exact e.1.1
     . split at e
       case h_2=>simp at e
       simp only[z6,zb,zf]at e;exact e.1.1
    subst J;simp only[mR,S0 hb,(lf (lW hb)).1];congr 1;split at e
    . rename_i q;simp only[q,if_true]
    . rename_i q;split at e
      case h_2=>simp at e
      rename_i b ys hy;simp only[z6,zb,zf]at e;obtain⟨⟨_,rfl,_⟩,_⟩:=e;simp only[q,zT,if_false];exact uX λ e he=>uX λ c hc=>by
       obtain⟨y,O⟩:=yF hy e he;obtain⟨d,hd⟩:=xwE O c hc;exact ih c d hd
  . simp only[z6,zb]at e;rw[Sc e.1];rename_i h1 h2 h3 h4;cases x<;>first|rfl|exact(h1 _ rfl).elim|exact(h2 _ _ rfl).elim|exact(h3 _ _ _ _ rfl).elim|exact(h4 _ _ _ _ rfl).elim
variable {ys:List AV}
def xFU(h:jj (iM H n) xs=some (true,ys)):xs.flatMap (aQ H n)=xs.flatMap (mR H n):=uX λ c hc=>by obtain⟨d,hd⟩:=yF h c hc;exact Kn n c d hd
def nv(H:List aC)(args:List AV)(r:AV):List aC:=if r.flat then H else freeze H (args.flatMap (mR H eI))
def xGI(h:jj (iM H eI) xs=some (true,ys))(r:AV):nv H xs r=wW H xs r:=by unfold nv wW;rw[xFU h]
inductive LR where|leaf (e:Exit) (out:List AV) (H:List aC)|node (t:Bool) (a b:LR)
def LR.eval:LR->Exit×List AV×List aC|.leaf e o H=>(e,o,H)|.node t a b=>match t with|true=>a.eval|false=>b.eval
def LR.run{T:Type}(f:Exit->List AV->List aC->T):LR->T|.leaf e o H=>f e o H|.node t a b=>br t (a.run f) (b.run f)
def LR.run_good{T:Type}{good:T->Prop}{f:Exit->List AV->List aC->T}:∀{r:LR},good (r.run f)->good (f r.eval.1 r.eval.2.1 r.eval.2.2)|.leaf e o H,h=>h|.node true a b,h=>LR.run_good (r:=a) h|.node false a b,h=>LR.run_good (r:=b) h
structure Lp where
 live:List Nat
 liveO:List Nat
 conv:List (Nat×Nat×TypeId)
 run:List AV->List aC->Option (Bool×LR)
structure cZ where
 orc:FuncId->List AV->Option (Bool×AV)
 isM:FuncId->Bool
 orcM:FuncId->List AV->List aC->Option (Bool×AV×List aC)
 lp:Nat->Option Lp
 nt:Nat
 fuel:Nat
 pin:Nat
 ls:TypeId->Bool
def jv:Code->Nat|.region id _ _=>id|.seq a _=>jv a|.block _ c=>jv c|.loop c=>jv c|.cond _ a _=>jv a|_=>0
def ob:List Oper->Bool|[]=>false|[o]=>(match o.op with|.range _ _=>true|_=>false)|_::l=>ob l
def n9:Code->Bool|.region _ ops _=>ob ops.toList|_=>false
def jX:Code->List Code|.seq a b=>(match n9 a with|true=>[]|false=>jX a++jX b)|.block _ c=>jX c|.loop c=>c::jX c|.cond _ a b=>jX a++jX b|_=>[]
def jJ:Code->List Code|.seq a b=>(match n9 a with|true=>[.seq a b]|false=>jJ a++jJ b)|.block _ c=>jJ c|.loop c=>jJ c|.cond t a b=>.cond t a b::(jJ a++jJ b)|.rangeFunc g ps a b=>[.rangeFunc g ps a b]|_=>[]
def gM:Code->Nat|.cond _ a _=>1000000+jv a|.rangeFunc _ _ _ b=>3000000+jv b|.seq a _=>4000000+jv a|_=>0
def di(P:Program)(Inv:IV)(E:cZ):Prop:=(∀g args r,E.orc g args=some (true,r)->Good P Inv g args r)/\∀g args H r H',E.orcM g args H=some (true,r,H')->bG P Inv g args H r H'
def dp(P:Program)(Inv:IV)(nt:Nat)(l:Code)(lp:Lp):Prop:=∀vals H r,lp.run vals H=some (true,r)->fg P Inv l (λ e1 s1=>e1=r.eval.1/\s1=⟨aX nt (lp.liveO.zip r.eval.2.1),r.eval.2.2⟩) ⟨aX nt (lp.live.zip vals),H⟩
def lw(P:Program)(Inv:IV)(nt:Nat)(d:Code)(lp:Lp):Prop:=∀vals H r,lp.run vals H=some (true,r)->bL P Inv d (λ e1 s1=>e1=r.eval.1/\s1=⟨aX nt (lp.liveO.zip r.eval.2.1),r.eval.2.2⟩) ⟨aX nt (lp.live.zip vals),H⟩
def cV(P:Program)(Inv:IV)(E:cZ)(c:Code):Prop:=(∀l,l∈jX c->∀lp,E.lp (jv l)=some lp->dp P Inv E.nt l lp)/\∀d,d∈jJ c->∀lp,E.lp (gM d)=some lp->lw P Inv E.nt d lp
variable {Inv:IV}{P:Program}{c:Code}
def cV.sub{E:cZ}{c':Code}(h:cV P Inv E c)(h1:∀l,l∈jX c'->l∈jX c)(h2:∀d,d∈jJ c'->d∈jJ c):cV P Inv E c':=⟨λ l hl=>h.1 l (h1 l hl),λ d hd=>h.2 d (h2 d hd)⟩
variable {Q:Exit->St->Prop}{s:St}
def xyM{s':St}(hw:dC Inv.pin s s')(h:fg P Inv c Q s'):fg P Inv c Q s:=λ w0 A0 w A M a Qc hI hp hs hQ=>by obtain⟨A'',M'',q⟩:=hw w0 A0 w A M a hp hs;exact h w0 A0 w A'' M'' a Qc hI hp q hQ
def vz{s':St}(hw:dC Inv.pin s s')(h:bL P Inv c Q s'):bL P Inv c Q s:=λ w0 A0 w A M a Qc hI hp hs hQ=>by obtain⟨A'',M'',q⟩:=hw w0 A0 w A M a hp hs;exact h w0 A0 w A'' M'' a Qc hI hp q hQ
section exec
variable{T:Type}(P:Program)(E:cZ)(bad:T)
def jC(q:Bool)(o:Oper)(s:St)(K:St->T):T:=
 if jD o.op then
  (if q then match kW P s.eval s.heap o.op with
   |some (b,has,b1,x,y)=>br b (br has (br b1 (dg x λ x'=>fj s.tmps o.dst x' λ ts=>K ⟨ts,s.heap⟩) bad) (dg y λ x'=>fj s.tmps o.dst x' λ ts=>K ⟨ts,s.heap⟩)) bad
   |none=>match sA P s.eval s.heap o.op with
    |some (b,x,H)=>br b (dg x λ x'=>fj s.tmps o.dst x' λ ts=>kD H λ H'=>K ⟨ts,H'⟩) bad
    |none=>bad
  else bad)
 else match sr P E.ls s.eval s.heap s.heap.length o.op with
  |some (b,x,nb)=>br b (dg x λ x'=>fj s.tmps o.dst x' λ ts=>kD (s.heap++nb.toList) λ H'=>K ⟨ts,H'⟩) bad
  |none=>bad
def lY(o:Oper)(c:Call)(s:St)(K:St->T):T:=match pz s c with|some (g,args)=>(let ids:=gather s.heap 1000 (refsOf.refsL args) [];match ef ids with|true=>(match fp (oX ids) s.heap ids with|some H0=>(jQ (rens (oX ids) args) λ aS=>kD H0 λ H0=>match E.orcM g aS H0 with|some (b,r0,H0')=>br b (dg (ren (iK ids s.heap.length ids.length) r0) λ r'=>fj s.tmps o.dst r' λ ts=>kD (eZ s.heap ids H0') λ H'=>K ⟨ts,H'⟩) bad|none=>bad)|none=>bad)|false=>bad)|none=>bad
def lB(H:List aC):List AV->Option Nat|[]=>none|.osl (.b n) _ _ _::r=>(match H[n]? with|some bx=>(match bW bx.ty with|true=>some n|false=>lB H r)|none=>lB H r)|_::r=>lB H r
def nT(o:Oper)(c:Call)(s:St)(K:St->T):T:=match pz s c with|some (_,args)=>(match lB s.heap args with|some n=>(match s.heap[n]? with|some bx=>(match bW bx.ty&&!dD bx.ty with|true=>br (en bx bx.xs) (kD (s.heap.set n ⟨bx.ver,bx.sz,gA bx.ty,bx.xs,bx.frz,true⟩) λ H=>lY E bad o c ⟨s.tmps,H⟩ K) bad|false=>bad)|none=>bad)|none=>lY E bad o c s K)|none=>bad
def sm(s:St)(c:Call):Bool:=match pz s c with|some (g,_)=>E.isM g|none=>false
def qT(o:Oper)(c:Call)(s:St)(K:St->T):T:=match pz s c with|some (g,args)=>(match jj (iM s.heap eI) args with|some (b,args')=>(br b (jQ args' fun aS=>match E.orc g aS with|some (b2,r)=>br b2 (dg r λ r'=>fj s.tmps o.dst r' λ ts=>kD (nv s.heap args r') λ H'=>K ⟨ts,H'⟩) bad|none=>bad) bad)|none=>bad)|none=>bad
def CC(q:Bool)(o:Oper)(s:St)(K:St->T):T:=match o.op with|.pick c a b=>(match s.eval c with|.bool t=>br t (dg (s.eval a) λ x=>fj s.tmps o.dst x λ ts=>K ⟨ts,s.heap⟩) (dg (s.eval b) λ x=>fj s.tmps o.dst x λ ts=>K ⟨ts,s.heap⟩)|_=>bad)|.call c=>(match c.callee with|.value _=>(match sm E s c with|true=>(match q with|true=>nT E bad o c s K|false=>bad)|false=>qT E bad o c s K)|_=>jC P E bad q o s K)|_=>jC P E bad q o s K
def DA(H:List aC):AV->Bool×AV×List Nat|.osl id ver off len=>(match iM H eI (.osl id ver off len)with|some (b,y)=>(b,y,mR H eI (.osl id ver off len))|none=>(false,.top,[]))|.own id ver i j=>(match iM H eI (.own id ver i j)with|some (b,y)=>(b,y,mR H eI (.own id ver i j))|none=>(false,.top,[]))|x=>(true,x,[])
def jz(H:List aC)(q:List AV):List Nat->Bool×List AV×List Nat|[]=>(true,q,[])|t::r=>match jz H q r with|(b,ts,ids)=>match DA H (q.getD t .top)with|(b',y,ids')=>(b'&&b,ts.set t y,ids'++ids)
def jF(ts:List AV):List Operand->List Nat|[]=>[]|.tmp t::r=>(match ts.getD t .top with|.osl _ _ _ _=>t::jF ts r|_=>jF ts r)|_::r=>jF ts r
def wH(H:List aC)(ts:List AV):Operand->List Nat|.tmp t=>(match ts.getD t .top with|.osl (.b id) _ _ _=>(match H[id]? with|some bx=>(match bx.pm with|true=>[]|false=>[t])|none=>[])|_=>[])|_=>[]
def Dp(s:St)(o:Oper):List Nat:=match o.op with|.buildSlice t _ _=>(match P.underlying t with|some (.slice e)=>(match E.ls e with|true=>jF s.tmps o.op.operands.toList|false=>[])|_=>[])|.build t _=>(match E.ls t || E.ls (9000000+t)with|true=>jF s.tmps o.op.operands.toList|false=>[])|.move a=>(match o.dst with|some d=>(match E.ls (2000000+d)with|true=>jF s.tmps [a]|false=>[])|none=>[])|.store t _ v=>(match E.ls (4000000+t)with|true=>jF s.tmps [v]|false=>[])|.call c=>(match c.callee with|.builtin b=>(match b,c.argTypes.toList,c.args.toList with|.append,[t,_],[_,x]=>(match P.underlying t with|some (.slice e)=>(match E.ls e with|true=>wH s.heap s.tmps x|false=>[])|_=>[])|_,_,_=>[])|_=>[])|_=>[]
def yM(tl:List Nat)(o:Oper)(s:St)(K:St->T):T:=match jz s.heap s.tmps tl with
 |(b,q,ids)=>br b (jQ q fun q=>kD (freeze s.heap ids) fun H1=>match jD o.op with
  |true=>match sA P (St.eval ⟨q,H1⟩) H1 o.op with
   |some (b2,x,H2)=>br b2 (dg x λ x'=>fj s.tmps o.dst x' λ ts=>kD H2 λ H'=>K ⟨ts,H'⟩) bad
   |none=>bad
  |false=>match sr P E.ls (St.eval ⟨q,H1⟩) H1 H1.length o.op with
  |some (b2,x,nb)=>br b2 (dg x λ x'=>fj s.tmps o.dst x' λ ts=>kD (H1++nb.toList) λ H'=>K ⟨ts,H'⟩) bad
  |none=>bad) bad
def yd(o:Oper)(s:St)(K:St->T):T:=match qh s.eval o.op with|some (b,x)=>br b (dg x λ x'=>fj s.tmps o.dst x' λ ts=>K ⟨ts,s.heap⟩) bad|none=>bad
def kS(q:Bool)(o:Oper)(s:St)(K:St->T):T:=match Dp P E s o with
 |[]=>match De E.ls o.op with
  |true=>yd bad o s K
  |false=>CC P E bad q o s K
 |t::r=>match q with
  |true=>yM P E bad (t::r) o s K
  |false=>bad
def l5(ops:Array Oper)(o:Oper)(s:St)(K:Bool->St->T):T:=match o.guard with|none=>K true s|some (j,want)=>match jK ops j with|none=>K false s|some d=>match s.tmps[d]? with|none=>K false s|some (.bool t)=>br t (nJ s.tmps d (.bool true) λ ts=>K (true==want) ⟨ts,s.heap⟩) (nJ s.tmps d (.bool false) λ ts=>K (false==want) ⟨ts,s.heap⟩)|some (.tuple _)=>K false s|_=>bad
def tX(o:Oper)(s:St)(K:St->T):T:=match qi P s.eval s.heap s.heap.length o.op with|some (b,x,nb)=>br b (dg x λ x'=>fj s.tmps o.dst x' λ ts=>kD (s.heap++nb.toList) λ H'=>K ⟨ts,H'⟩) bad|none=>CC P E bad false o s K
def yH(o:Oper)(s:St)(K:St->T):T:=match kW P s.eval s.heap o.op with|some (b,has,b1,x,y)=>br b (br has (br b1 (dg x λ x'=>fj s.tmps o.dst x' λ ts=>K ⟨ts,s.heap⟩) bad) (dg y λ x'=>fj s.tmps o.dst x' λ ts=>K ⟨ts,s.heap⟩)) bad|none=>match o.op with|.lookup _ _ _ _=>tX P E bad o s K|_=>kS P E bad false o s K
def nY(md:Option Bool)(o:Oper)(s:St)(K:St->T):T:=match md with|some true=>kS P E bad true o s K|some false=>yH P E bad o s K|none=>tX P E bad o s K
def cR(q:Option Bool)(ops:Array Oper):List Oper->St->(St->T)->T|[],s,K=>K s|o::rest,s,K=>l5 bad ops o s λ b s1=>match b with|true=>nY P E bad q o s1 λ s'=>cR q ops rest s' K|false=>fj s1.tmps o.dst (.tuple []) λ ts=>cR q ops rest ⟨ts,s1.heap⟩ K
def uh(o:Oper):Bool:=match o.op with|.call c=>(match c.callee with|.value (.func g)=>E.isM g|_=>jD o.op)|.lookup _ _ _ _=>(match E.ls 8000000 with|true=>false|false=>true)|_=>jD o.op
def eM:List Oper->Nat|[]=>0|o::l=>match uh E o with|true=>0|false=>eM l+1
def gZ(ops:Array Oper)(m:Nat):Nat->List Oper->St->(St->T)->T|_,[],s,K=>K s|k,o::rest,s,K=>match kx ops m ((dR ops).getD k 0)with|[]=>(l5 bad ops o s λ b s1=>match b with|true=>kS P E bad true o s1 λ s'=>gZ ops m (k+1) rest s' K|false=>fj s1.tmps o.dst (.tuple []) λ ts=>gZ ops m (k+1) rest ⟨ts,s1.heap⟩ K)|d::ds=>match o.guard with|none=>jQ (fD (d::ds) s.tmps) λ ms=>kS P E bad true o ⟨ms,s.heap⟩ λ s'=>jQ (jp (d::ds) s.tmps s'.tmps) λ ts=>gZ ops m (k+1) rest ⟨ts,s'.heap⟩ K|some _=>bad
def Df(o:Oper):Bool:=match o.op with|.assign _=>true|_=>false
def qC:List Oper->Nat|[]=>0|o::l=>match Df o with|true=>qC l+1|false=>0
def oS(ops:Array Oper):Nat:=match fV false ops (eM E ops.toList)with|true=>eM E ops.toList|false=>match fV false ops (eM E ops.toList - 1)with|true=>eM E ops.toList - 1|false=>eM E ops.toList - qC (ops.toList.take (eM E ops.toList)).reverse
def ny(ops:Array Oper):Nat:=eM E ops.toList - qC (ops.toList.take (eM E ops.toList)).reverse
def C3(o:Oper):Option Tmp:=match o.op with|.call c=>(match c.callee with|.builtin b=>(match b,c.args.toList with|.append,[.tmp d,_]=>some d|_,_=>none)|_=>none)|_=>none
def MC(o:Oper):Option Tmp:=match o.op with|.buildSlice _ len _=>(match len with|0=>o.dst|_+1=>none)|_=>none
def qj(q:List Tmp):List Oper->Nat|[]=>0|o::l=>match uh E o with|true=>(match C3 o with|some d=>(match (gY q d).isSome with|true=>qj q l+1|false=>0)|none=>0)|false=>qj q l+1
def oR(ops:Array Oper):Nat:=qj E (ops.toList.filterMap MC) ops.toList
def nI(ops:Array Oper)(m:Nat)(s:St):Bool:=(List.range m).all λ i=>match ops[i]? with|some o=>(match nf true ops m i with|true=>dH s.eval o.op|false=>true)|none=>true
variable {m:Nat}{ops:Array Oper}
def xwA{s:St}(h:nI ops m s):∀i o,i<m->ops[i]?=some o->nf true ops m i->dH s.eval o.op:=λ i o hi ho hf=>by have:=zI.1 h i (List.mem_range.2 hi);simp only[ho,hf]at this;exact this
def xyR{s:St}:∀i o,i<m->ops[i]?=some o->nf false ops m i->dH s.eval o.op:=λ i o _ ho hf=>by obtain⟨o',q,h,_⟩:=Fw hf;rw[ho]at q;cases q;exact xJc h
def oA(ops:Array Oper)(q:Bool)(s:St)(K:St->T):T:=match aO ops with
 |false=>bad
 |true=>if q then
  if(decide (oS E ops<=ops.size)&&fV false ops (oS E ops)) then
   cR P E bad (some false) ops (ops.toList.take (oS E ops)) s λ s1=>gZ P E bad ops (oS E ops) (oS E ops) (ops.toList.drop (oS E ops)) s1 K
  else if(decide (oR E ops<=ops.size)&&fV false ops (oR E ops)) then
   cR P E bad none ops (ops.toList.take (oR E ops)) s λ s1=>gZ P E bad ops (oR E ops) (oR E ops) (ops.toList.drop (oR E ops)) s1 K
  else if(decide (eM E ops.toList<=ops.size)&&fV true ops (eM E ops.toList)) then
   cR P E bad (some false) ops (ops.toList.take (eM E ops.toList)) s λ s1=>match nI ops (eM E ops.toList) s1 with
    |true=>gZ P E bad ops (eM E ops.toList) (eM E ops.toList) (ops.toList.drop (eM E ops.toList)) s1 K
    |false=>bad
  else if(decide (ny E ops<=ops.size)&&fV true ops (ny E ops)) then
   cR P E bad (some false) ops (ops.toList.take (ny E ops)) s λ s1=>match nI ops (ny E ops) s1 with
    |true=>gZ P E bad ops (ny E ops) (ny E ops) (ops.toList.drop (ny E ops)) s1 K
    |false=>bad
  else bad
 else cR P E bad (some true) ops ops.toList s K
def dG(s:St):List Oper->List Nat|[]=>[]|o::_=>match o.op with|.move a=>(match o.dst with|some d=>(match E.ls (3000000+d)with|true=>jF s.tmps [a]|false=>match E.ls (5000000+d)with|true=>(List.range s.tmps.length).filter λ t=>E.ls (6000000+t)|false=>[])|none=>[])|_=>match o.dst with|some d=>(match E.ls (5000000+d)with|true=>(List.range s.tmps.length).filter λ t=>E.ls (6000000+t)|false=>[])|none=>[]
def oB(ops:Array Oper)(q:Bool)(s:St)(K:St->T):T:=match dG E s ops.toList with|[]=>oA P E bad ops q s K|t::r=>match jz s.heap s.tmps (t::r)with|(b,J,ids)=>br b (jQ J λ J=>kD (freeze s.heap ids) λ H1=>oA P E bad ops q ⟨J,H1⟩ K) bad
def MW(s:St):List Oper->List (Nat×Nat×TypeId)|[]=>[]|o::_=>match o.dst with|some d=>(match E.ls (10000000+d)with|true=>((List.range s.tmps.length).filter λ t=>E.ls (11000000+t)).map λ t=>(t,0,(1073741824:Nat))|false=>[])|none=>[]
def wY(ops:Array Oper)(q:Bool)(s:St)(K:St->T):T:=match MW E s ops.toList with|[]=>oB P E bad ops q s K|c::cs=>match convs (c::cs) s.tmps s.heap with|(J,H1)=>jQ J λ J=>kD H1 λ H1=>oB P E bad ops q ⟨J,H1⟩ K
def oK(R:St->(Exit->St->T)->T):Nat->St->(Exit->St->T)->T|0,_,_=>bad|n+1,s,K=>R s λ e s'=>match e with|.normal=>oK R n s' K|e=>K e s'
def g8(lp:Lp)(s:St)(K:Exit->St->T)(F:T):T:=match gw E.pin lp.conv lp.live s with|some (vals,H0)=>(jQ vals λ vals=>kD H0 λ H0=>match lp.run vals H0 with|some (b,r)=>br (Nat.beq s.tmps.length E.nt) (br b (r.run λ e out H'=>jQ (aX E.nt (lp.liveO.zip out)) λ ts=>kD H' λ H''=>K e ⟨ts,H''⟩) bad) bad|none=>F)|none=>F
def rp(lp:Lp)(R:St->(Exit->St->T)->T):Nat->St->(Exit->St->T)->T|0,s,K=>g8 E bad lp s K bad|n+1,s,K=>g8 E bad lp s K (R s fun e s'=>match e with|.normal=>rp lp R n s' K|e=>K e s')
def lj(c:Operand)(b:Bool)(s:St)(K:St->T):T:=match E.ls 7000000,c with|true,.tmp n=>nJ s.tmps n (.bool b) λ ts=>K ⟨ts,s.heap⟩|_,_=>K s
def X:Code->St->(Exit->St->T)->T|.skip,s,K=>K .normal s|.region _ ops draw,s,K=>wY P E bad ops draw s (K .normal)|.seq a b,s,K=>(match n9 a with|true=>(match E.lp (4000000+jv a)with|some lp=>g8 E bad lp s K bad|none=>bad)|false=>X a s λ e s'=>match e with|.normal=>X b s' K|e=>K e s')|.cond c a b,s,K=>(match E.lp (1000000+jv a)with|some lp=>g8 E bad lp s K bad|none=>match s.eval c with|.bool t=>br t (lj E c true s λ s=>X a s K) (lj E c false s λ s=>X b s K)|_=>bad)|.block id c,s,K=>(X c s λ e s'=>match e with|.exit id'=>if id'=id then K .normal s' else K (.exit id') s'|e=>K e s')|.loop c,s,K=>(match E.lp (jv c)with|some lp=>rp E bad lp (λ s K=>X c s K) 2 s K|none=>oK bad (λ s K=>X c s K) E.fuel s K)|.rangeFunc _ _ _ b,s,K=>(match E.lp (3000000+jv b)with|some lp=>g8 E bad lp s K bad|none=>bad)|.exit id,s,K=>K (.exit id) s|.ret,s,K=>K .ret s|_,_,_=>bad
end exec
section sound
variable{T:Type}{P:Program}{Inv:IV}{E:cZ}{bad:T}{good:T->Prop}
variable {s:St}
def VK{c:Operand}{b:Bool}(h:s.eval c=.bool b)(K:St->T):lj E c b s K=K s:=by unfold lj;split;(rename_i n _;rw[yJ];have h:s.tmps.getD n .top=.bool b:=h;have e:s.tmps.set n (.bool b)=s.tmps:=by rcases zJ n s.tmps.length with g|g;rw[<-h];refine List.ext_getElem Ψ λ i h1 h2=>?_;rw[List.getElem_set];split;rename_i e;subst e;rw[z7,ze h2,zh];rfl;exact List.set_eq_of_length_le g);rw[e];rfl
def jZ(q:¬ good bad){t:Bool}{a:T}(h:good (br t a bad)):t/\good a:=by cases t with|true=>exact⟨rfl,h⟩|false=>exact(q h).elim
variable {J:Bool}{K:St->T}{o:Oper}
def xvU(q:¬ good bad)(h:good (jC P E bad J o s K)):
  if jD o.op=true then J=true/\jE P o s (λ s'=>good (K s'))else iy P o s (λ s'=>good (K s')):=by
 unfold jC at h;split
 . rename_i hi;rw[if_pos hi]at h;split at h
   case isFalse=>exact(q h).elim
   rename_i O;refine⟨O,?_⟩;split at h
   . rename_i b Q b1 x y hx;obtain⟨rfl,h⟩:=jZ q h;obtain⟨f1,f2⟩:=xFA hx;unfold jE;cases Q with
     |true=>
      have h:good (br b1 (dg x λ x'=>fj s.tmps o.dst x' λ ts=>K ⟨ts,s.heap⟩) bad):=h
      obtain⟨rfl,h⟩:=jZ q h;rw[mf,mh]at h;rw[f1 rfl rfl];exact h
     |false=>
      have h:good (dg y λ x'=>fj s.tmps o.dst x' λ ts=>K ⟨ts,s.heap⟩):=h
      rw[mf,mh]at h;rw[f2 rfl];exact h
   split at h
   case h_2=>exact(q h).elim
   rename_i b x H hx;obtain⟨rfl,h⟩:=jZ q h;rw[mf,mh,lR]at h;unfold jE;rw[Ua hx];exact h
 . rename_i hi;rw[if_neg hi]at h;split at h
   case h_2=>exact(q h).elim
   rename_i b x nb hx;obtain⟨rfl,h⟩:=jZ q h;rw[mf,mh,lR]at h;unfold iy;rw[UH hx];exact h
variable {c:Call}
def xwQ(q:¬ good bad)(O:di P Inv E)(h:good (qT E bad o c s K)):nZ P Inv s c o.dst (λ s'=>good (K s')):=by
 unfold qT at h;split at h;case h_2=>exact(q h).elim
 rename_i g args J;split at h;case h_2=>exact(q h).elim
 rename_i b Q hm;have ⟨e1,h1⟩:=jZ q h;clear h;subst e1;rw[kH]at h1;split at h1;case h_2=>exact(q h1).elim
 rename_i b2 r hr;have ⟨e2,h⟩:=jZ q h1;clear h1;subst e2;rw[mf,mh,lR,xGI hm]at h;exact xFk J (yw (F1 eI) hm) (O.1 _ _ _ hr) h
def xJ7{d:Option Tmp}{K:St->Prop}(h:nZ P Inv s c d K):pW P Inv s c d K:=by obtain⟨s',h1,h2⟩:=h;exact⟨s',.inl h1,h2⟩
def xuR(q:¬ good bad)(Q:di P Inv E)(h:good (lY E bad o c s K)):∃s',oO P Inv s ⟨o.dst,.call c,0, "",#[],none⟩ s'/\good (K s'):=by
 unfold lY at h;split at h;case h_2=>exact(q h).elim
 rename_i g args O;simp only at h;generalize gather s.heap 1000 (refsOf.refsL args) []=ids at h;split at h;case h_2=>exact(q h).elim
 rename_i V;split at h;case h_2=>exact(q h).elim
 rename_i H0 J;rw[kH,lR]at h;split at h;case h_2=>exact(q h).elim
 rename_i b r0 H0' hr;obtain⟨rfl,h⟩:=jZ q h;rw[mf,mh,lR]at h;exact⟨_,.inr (.inl ⟨c,g,args,ids,H0,r0,H0',rfl,O,V,J,Q.2 _ _ _ _ _ hr,rfl⟩),h⟩
def xDk(q:¬ good bad)(J:di P Inv E)(h:good (nT E bad o c s K)):pW P Inv s c o.dst (λ s'=>good (K s')):=by
 unfold nT at h;split at h;case h_2=>exact(q h).elim
 split at h;rename_i n hn;split at h;case h_2=>exact(q h).elim
 rename_i bx hb;split at h;case h_2=>exact(q h).elim
 rename_i hC;obtain⟨O,h⟩:=jZ q h;rw[lR]at h;obtain⟨s',h1,h2⟩:=xuR q J h;simp only[zf,Bool.not_eq_true']at hC;exact⟨s',.inr (.inr (.inl ⟨_,⟨n,bx,hb,hC.1,hC.2,O,rfl⟩,h1⟩)),h2⟩;obtain⟨s',h1,h2⟩:=xuR q J h;exact⟨s',.inr (.inl h1),h2⟩
def xN3(q:¬ good bad)(J:di P Inv E)(h:good (CC P E bad true o s K)):oq P Inv o s (λ s'=>good (K s')):=by
 have plain:good (jC P E bad true o s K)->(if jD o.op then jE P o s (λ s'=>good (K s'))else iy P o s (λ s'=>good (K s'))):=λ h=>by have:=xvU q h;split at this<;>rename_i hi;rw[if_pos hi];exact this.2;rw[if_neg hi];exact this
 unfold CC at h;unfold oq;split at h;rename_i c a b ho;split at h;case h_2=>exact(q h).elim
 rename_i t ht;simp only[ho,ht];rw[mf,mf,mh,mh]at h;cases t with|true=>exact Uw (by simpa only[br]using h)|false=>exact xyD (by simpa only[br]using h)
 rename_i c ho;split at h;rename_i f hf;simp only[ho,hf];split at h;exact xDk q J h;exact xJ7 (xwQ q J h);rename_i hne;have:=plain h;simp only[ho]at this|-;cases hc:c.callee<;>first|exact(hne _ hc).elim|exact this
 rename_i h1 h2;have:=plain h;cases ho:o.op<;>first|exact(h1 _ _ _ ho).elim|exact(h2 _ ho).elim|exact this|(rw[ho]at this;exact this)
def XV(q:¬ good bad)(J:di P Inv E)(h:good (CC P E bad false o s K)):jG P Inv o s (λ s'=>good (K s')):=by
 have plain:good (jC P E bad false o s K)->iy P o s (λ s'=>good (K s')):=λ h=>by have:=xvU q h;split at this<;>rename_i hi;exact absurd this.1 Ψ;exact this
 unfold CC at h;unfold jG;split at h;rename_i c a b ho;split at h;case h_2=>exact(q h).elim
 rename_i t ht;simp only[ho,ht];rw[mf,mf,mh,mh]at h;cases t with|true=>exact Uw (by simpa only[br]using h)|false=>exact xyD (by simpa only[br]using h)
 rename_i c ho;split at h;rename_i f hf;simp only[ho,hf];split at h;exact(q h).elim;exact xwQ q J h;rename_i hne;have:=plain h;simp only[ho]at this|-;cases hc:c.callee<;>first|exact(hne _ hc).elim|exact this
 rename_i h1 h2;have:=plain h;cases ho:o.op<;>first|exact(h1 _ _ _ ho).elim|exact(h2 _ ho).elim|exact this|(rw[ho]at this;exact this)
def Kt{H:List aC}{q:List AV}:∀{tl:List Nat}{ts:List AV}{ids:List Nat},jz H q tl=(true,ts,ids)->ts.length=q.length/\∀t,ts.getD t .top=q.getD t .top\/(resolve H eI (q.getD t .top)=some (ts.getD t .top)/\∀id,id∈aQ H eI (q.getD t .top)->id∈ids)|[],ts,ids,h=>(by simp only[jz,zb,true_and]at h;obtain⟨rfl,rfl⟩:=h;exact⟨rfl,λ t=>.inl rfl⟩)|t::r,ts,ids,h=>by unfold jz at h;split at h;rename_i b J V h1;split at h;rename_i b' y W h2;simp only[zb,zf]at h;obtain⟨⟨rfl,rfl⟩,rfl,rfl⟩:=h;obtain⟨e1,e2⟩:=Kt h1;refine⟨by rw[y4,e1],λ k=>?_⟩;by_cases hk:k=t/\t<J.length;obtain⟨rfl,hl⟩:=hk;rw[pJ hl];unfold DA at h2;split at h2;rename_i id ver off len hx;split at h2;rename_i b y0 hr;simp only[zb]at h2;obtain⟨rfl,rfl,rfl⟩:=h2;rw[hx];refine .inr ⟨F1 eI _ _ hr,λ i hi=>?_⟩;rw[Kn eI _ _ hr]at hi;exact List.mem_append_left _ hi;simp at h2;rename_i id ver off len hx;split at h2;rename_i b y0 hr;simp only[zb]at h2;obtain⟨rfl,rfl,rfl⟩:=h2;rw[hx];refine .inr ⟨F1 eI _ _ hr,λ i hi=>?_⟩;rw[Kn eI _ _ hr]at hi;exact List.mem_append_left _ hi;simp at h2;simp only[zb,true_and]at h2;exact .inl h2.1.symm;(have:(J.set t y).getD k .top=J.getD k .top:=by by_cases O:k=t;subst O;rw[List.set_eq_of_length_le Ω];exact pH (λ e=>O e.symm));rw[this];rcases e2 k with h|⟨h,h'⟩;exact .inl h;exact .inr ⟨h,λ id Q=>List.mem_append_right _ (h' id Q)⟩
def xGe(q:¬ good bad){tl:List Nat}(h:good (yM P E bad tl o s K)):∃s',iG P Inv s o s'/\good (K s'):=by
 unfold yM at h;split at h;rename_i b O ids J;have ⟨hb,h1⟩:=jZ q h;clear h;subst hb;rw[kH,lR]at h1;split at h1
 . split at h1
   case h_2=>exact(q h1).elim
   rename_i b2 x H2 hx;have ⟨hb,h⟩:=jZ q h1;clear h1;subst hb;rw[mf,mh,lR]at h;obtain⟨e1,e2⟩:=Kt J;exact⟨_,.inr (.inr (.inr ⟨⟨O,freeze s.heap ids⟩,x,H2,⟨ids,rfl,e1,e2⟩,Ua hx,rfl⟩)),h⟩
 split at h1
 case h_2=>exact(q h1).elim
 rename_i b2 x nb hx;have ⟨hb,h⟩:=jZ q h1;clear h1;subst hb;rw[mf,mh,lR]at h;obtain⟨e1,e2⟩:=Kt J;exact⟨_,.inr (.inl (.inr (.inr ⟨⟨O,freeze s.heap ids⟩,x,nb,⟨ids,rfl,e1,e2⟩,UH hx,rfl⟩))),h⟩
def xzJ(q:¬ good bad)(h:good (yd bad o s K)):∃s',j8 P Inv s o s'/\good (K s'):=by unfold yd at h;split at h;(case h_2=>exact(q h).elim);rename_i b x hx;obtain⟨hb,h'⟩:=jZ q h;subst hb;rw[mf,mh]at h';exact⟨_,.inl ⟨x,none,.inr (xFw hx),rfl⟩,by simpa using h'⟩
def NQ(q:¬ good bad)(J:di P Inv E)(h:good (kS P E bad true o s K)):∃s',iG P Inv s o s'/\good (K s'):=by
 unfold kS at h;split at h
 . split at h
   . obtain⟨s',h1,h2⟩:=xzJ (P:=P) (Inv:=Inv) q h;exact⟨s',.inl h1,h2⟩
   . exact xDX (xN3 q J h)
 . exact xGe q h
def xM7(q:¬ good bad)(J:di P Inv E)(h:good (kS P E bad false o s K)):∃s',j8 P Inv s o s'/\good (K s'):=by unfold kS at h;split at h;split at h;exact xzJ q h;exact xwH (XV q J h);exact(q h).elim
def XD(q:¬ good bad)(J:di P Inv E)(h:good (tX P E bad o s K)):∃s',j8 P Inv s o s'/\good (K s'):=by unfold tX at h;split at h;rename_i b x nb hx;have ⟨hb,h⟩:=jZ q h;subst hb;rw[mf,mh,lR]at h;exact⟨_,.inl ⟨x,nb,.inr (xFy hx),rfl⟩,h⟩;exact xwH (XV q J h)
def xM6(q:¬ good bad)(J:di P Inv E)(h:good (yH P E bad o s K)):∃s',j8 P Inv s o s'/\good (K s'):=by unfold yH at h;split at h;(rename_i b Q b1 x y hx;obtain⟨rfl,h⟩:=jZ q h;obtain⟨f1,f2⟩:=xFB (nid:=s.heap.length) hx;cases Q with|true=>(have h2:good (br b1 (dg x λ x'=>fj s.tmps o.dst x' λ ts=>K ⟨ts,s.heap⟩) bad):=h;obtain⟨O,h3⟩:=jZ q h2;rw[mf,mh]at h3;exact⟨_,.inl ⟨x,none,.inr (f1 rfl O),rfl⟩,by simpa using h3⟩)|false=>have h2:good (dg y λ x'=>fj s.tmps o.dst x' λ ts=>K ⟨ts,s.heap⟩):=h;rw[mf,mh]at h2;exact⟨_,.inl ⟨y,none,.inr (f2 rfl),rfl⟩,by simpa using h2⟩);split at h;exact XD q J h;exact xM7 q J h
variable {ops:Array Oper}
def vt(Q:¬ good bad){J:Option Bool}{Step:St->Oper->St->Prop}(q:∀o s(K:St->T),good (nY P E bad J o s K)->∃s',Step s o s'/\good (K s')):
  ∀(l:List Oper)(s:St)(K:St->T),good (cR P E bad J ops l s K)->∃s',d7 Step ops l s s'/\good (K s')
 |[],s,K,h=>⟨s,.nil s,h⟩
 |o::rest,s,K,h=>by
  have run:∀s:St,ju ops s.tmps o=some true->good (nY P E bad J o s λ s'=>cR P E bad J ops rest s' K)->∃s',d7 Step ops (o::rest) s s'/\good (K s'):=λ s hg h=>by
   obtain⟨s1,h1,h2⟩:=q _ _ _ h;obtain⟨s2,h3,h4⟩:=vt Q q rest s1 K h2;exact⟨s2,.run hg h1 h3,h4⟩
  have skip:∀s:St,ju ops s.tmps o=some false->good (fj s.tmps o.dst (.tuple []) λ ts=>cR P E bad J ops rest ⟨ts,s.heap⟩ K)->∃s',d7 Step ops (o::rest) s s'/\good (K s'):=λ s hg h=>by
   rw[mh]at h;obtain⟨s2,h3,h4⟩:=vt Q q rest _ K h;exact⟨s2,.skip hg h3,h4⟩
  unfold cR l5 at h;split at h
  . rename_i hg;exact run s (by simp[ju,hg]) h
  . rename_i j O hg;split at h
    . rename_i hd;refine skip s ?_ h;have:(ops[j]?).bind (·.dst)=none:=hd;simp[ju,hg,fK,this]
    . rename_i d hd;have hd':(ops[j]?).bind (·.dst)=some d:=hd;split at h
      . rename_i ht;refine skip s ?_ h;simp[ju,hg,fK,hd',ht]
      . rename_i t ht;have V:ju ops s.tmps o=some (t==O):=by simp[ju,hg,fK,hd',ht]
        cases t with
        |true=>
         simp only[br]at h;rw[yJ,Lh ht]at h;cases O with
         |true=>exact run s V h
         |false=>exact skip s V h
        |false=>
         simp only[br]at h;rw[yJ,Lh ht]at h;cases O with
         |true=>exact skip s V h
         |false=>exact run s V h
      . rename_i vs ht;refine skip s ?_ h;simp[ju,hg,fK,hd',ht]
      . exact(Q h).elim
def yt(q:¬ good bad)(V:di P Inv E){m:Nat}:
  ∀(l:List Oper)(k:Nat)(s:St)(K:St->T),good (gZ P E bad ops m k l s K)->∃s',gv P Inv ops m k l s s'/\good (K s')
 |[],k,s,K,h=>⟨s,.nil k s,h⟩
 |o::rest,k,s,K,h=>by
  have O:∀(s:St)(K:St->T),good (kS P E bad true o s K)->∃s',iG P Inv s o s'/\good (K s'):=λ s K h=>NQ q V h
  unfold gZ at h;split at h
  . rename_i hml;have run:∀s:St,ju ops s.tmps o=some true->good (kS P E bad true o s λ s'=>gZ P E bad ops m (k+1) rest s' K)->∃s',gv P Inv ops m k (o::rest) s s'/\good (K s'):=λ s hg h=>by
     obtain⟨s1,h1,h2⟩:=O _ _ h;obtain⟨s2,h3,h4⟩:=yt q V rest (k+1) s1 K h2;exact⟨s2,.run [] hml.symm hg h1 h3,h4⟩
    have skip:∀s:St,ju ops s.tmps o=some false->good (fj s.tmps o.dst (.tuple []) λ ts=>gZ P E bad ops m (k+1) rest ⟨ts,s.heap⟩ K)->∃s',gv P Inv ops m k (o::rest) s s'/\good (K s'):=λ s hg h=>by
     rw[mh]at h;obtain⟨s2,h3,h4⟩:=yt q V rest (k+1) _ K h;exact⟨s2,.skip [] hml.symm hg h3,h4⟩
    unfold l5 at h;split at h
    . rename_i hg;exact run s (by simp[ju,hg]) h
    . rename_i j J hg;split at h
      . rename_i hd;refine skip s ?_ h;have:(ops[j]?).bind (·.dst)=none:=hd;simp[ju,hg,fK,this]
      . rename_i d hd;have hd':(ops[j]?).bind (·.dst)=some d:=hd;split at h
        . rename_i ht;refine skip s ?_ h;simp[ju,hg,fK,hd',ht]
        . rename_i t ht;have Q:ju ops s.tmps o=some (t==J):=by simp[ju,hg,fK,hd',ht]
          cases t with
          |true=>
           simp only[br]at h;rw[yJ,Lh ht]at h;cases J with
           |true=>exact run s Q h
           |false=>exact skip s Q h
          |false=>
           simp only[br]at h;rw[yJ,Lh ht]at h;cases J with
           |true=>exact skip s Q h
           |false=>exact run s Q h
        . rename_i vs ht;refine skip s ?_ h;simp[ju,hg,fK,hd',ht]
        . exact(q h).elim
  . rename_i d ds hml;split at h
    case h_2=>exact(q h).elim
    rename_i hg;rw[kH]at h;obtain⟨s1,h1,h2⟩:=O _ _ h;rw[kH]at h2;obtain⟨s2,h3,h4⟩:=yt q V rest (k+1) _ K h2;exact⟨s2,.run (d::ds) hml.symm (by simp[ju,hg]) h1 h3,h4⟩
variable {id:Nat}
def xwO(W:P.follows .mixedOrders)(O:bP Inv)(q:¬ good bad)(J:di P Inv E){V:Bool}{K:Exit->St->T}(h:good (oA P E bad ops V s (K .normal))):bL P Inv (.region id ops V) (λ e s'=>good (K e s')) s:=by
 have hA:∀o s(K:St->T),good (nY P E bad (some true) o s K)->∃s',iG P Inv s o s'/\good (K s'):=λ o s K h=>NQ q J h;have hF:∀o s(K:St->T),good (nY P E bad (some false) o s K)->∃s',j8 P Inv s o s'/\good (K s'):=λ o s K h=>xM6 q J h;have hE:∀o s(K:St->T),good (nY P E bad none o s K)->∃s',j8 P Inv s o s'/\good (K s'):=λ o s K h=>XD q J h;unfold oA at h;split at h;case h_1=>exact(q h).elim
 rename_i Q;cases V with|false=>(simp only[zT,if_false]at h;obtain⟨s',h1,h2⟩:=vt q hA _ _ _ h;exact Sj O Q h1 h2)|true=>
 simp only[if_true]at h;split at h;rename_i hc;simp only[zf,zl]at hc;obtain⟨s1,h1,h⟩:=vt q hF _ _ _ h;obtain⟨s2,h2,h⟩:=yt q J _ _ _ _ h;exact Lg W O _ Q hc.2 hc.1 h1 h2 xyR h;split at h;rename_i hc;simp only[zf,zl]at hc;obtain⟨s1,h1,h⟩:=vt q hE _ _ _ h;obtain⟨s2,h2,h⟩:=yt q J _ _ _ _ h;exact Lg W O _ Q hc.2 hc.1 h1 h2 xyR h;split at h;rename_i hc;simp only[zf,zl]at hc;obtain⟨s1,h1,h⟩:=vt q hF _ _ _ h;split at h;case h_2=>exact(q h).elim
 rename_i Y;obtain⟨s2,h2,h⟩:=yt q J _ _ _ _ h;exact Lg W O _ Q hc.2 hc.1 h1 h2 (xwA Y) h;split at h;case isFalse=>exact(q h).elim
 rename_i hc;simp only[zf,zl]at hc;obtain⟨s1,h1,h⟩:=vt q hF _ _ _ h;split at h;case h_2=>exact(q h).elim
 rename_i Y;obtain⟨s2,h2,h⟩:=yt q J _ _ _ _ h;exact Lg W O _ Q hc.2 hc.1 h1 h2 (xwA Y) h
def xF5{c:Code}{Q:Exit->St->Prop}{s1:St}(J:jS s s1)(h:bL P Inv c Q s1):bL P Inv c Q s:=λ w0 A0 w A M a Qc hI hp hs hQ ro q=>by obtain⟨A1,h1,_⟩:=hs.settle J;exact h w0 A0 w A1 M a Qc hI hp h1 hQ ro q
def xwP(Q:P.follows .mixedOrders)(O:bP Inv)(q:¬ good bad)(V:di P Inv E){K:Exit->St->T}(h:good (oB P E bad ops J s (K .normal))):bL P Inv (.region id ops J) (λ e s'=>good (K e s')) s:=by unfold oB at h;split at h;exact xwO Q O q V h;split at h;rename_i b Y ids W;have ⟨hb,h1⟩:=jZ q h;subst hb;rw[kH,lR]at h1;obtain⟨e1,e2⟩:=Kt W;exact xF5 ⟨ids,rfl,e1,e2⟩ (xwO Q O q V h1)
def xGd(Q:P.follows .mixedOrders)(O:bP Inv)(q:¬ good bad)(V:di P Inv E){K:Exit->St->T}(h:good (wY P E bad ops J s (K .normal))):bL P Inv (.region id ops J) (λ e s'=>good (K e s')) s:=by unfold wY at h;split at h;exact xwP Q O q V h;rename_i c cs _;split at h;rename_i W H1 hc;rw[kH,lR]at h;refine vz (s':=⟨W,H1⟩) (λ w0 A0 w A M a _ hs=>?_) (xwP Q O q V h);obtain⟨A1,M1,h1⟩:=SR.convs (c::cs) hs;rw[hc]at h1;exact⟨A1,M1,h1⟩
variable {R:St->(Exit->St->T)->T}
def xD4(q:¬ good bad){c:Code}(hR:∀s(K:Exit->St->T),good (R s K)->bL P Inv c (λ e s'=>good (K e s')) s){n:Nat}{K:Exit->St->T}(h:good (oK bad R n s K)):bL P Inv (.loop c) (λ e s'=>good (K e s')) s:=xH1 (λ n s=>good (oK bad R n s K)) (dC.refl _ _) h λ n s hs=>by cases n with|zero=>exact(q hs).elim|succ n=>refine mg (hR s _ hs) λ e s' h=>?_;cases e with|normal=>exact⟨n,s',Nat.lt_succ_self n,dC.refl _ _,h⟩|_=>exact h
variable {lp:Lp}
def Sw(O:Inv.pin=E.pin)(q:¬ good bad){K:Exit->St->T}{F:T}(h:good (g8 E bad lp s K F)):good F\/∃vals H0 r,lp.run vals H0=some (true,r)/\dC Inv.pin s ⟨aX E.nt (lp.live.zip vals),H0⟩/\good (K r.eval.1 ⟨aX E.nt (lp.liveO.zip r.eval.2.1),r.eval.2.2⟩):=by
 unfold g8 at h;split at h;case h_2=>exact .inl h
 rename_i vals H0 Q;rw[kH,lR]at h;split at h;case h_2=>exact .inl h
 rename_i b r V;have ⟨h0,h1⟩:=jZ q h;clear h;have ⟨hb,h⟩:=jZ q h1;clear h1;subst hb;have h:=LR.run_good h;rw[kH,lR]at h;have J:=zg h0;have hw:=vn Q;rw[<-O,J]at hw;exact .inr ⟨vals,H0,r,V,hw,h⟩
def Ry(J:Inv.pin=E.pin)(q:¬ good bad){d:Code}(O:lw P Inv E.nt d lp){K:Exit->St->T}(h:good (g8 E bad lp s K bad)):bL P Inv d (λ e s'=>good (K e s')) s:=by rcases Sw J q h with h|⟨vals,H0,r,h1,h2,h3⟩;exact(q h).elim;exact vz h2 (mg (O _ _ _ h1) λ e1 s1⟨g1,g2⟩=>by rw[g1,g2];exact h3)
def xwR(J:Inv.pin=E.pin)(q:¬ good bad){c:Code}(O:dp P Inv E.nt c lp)(hR:∀s(K:Exit->St->T),good (R s K)->bL P Inv c (λ e s'=>good (K e s')) s):∀(n:Nat)(s:St)(K:Exit->St->T),good (rp E bad lp R n s K)->fg P Inv c (λ e s'=>good (K e s')) s|0,s,K,h=>(by rcases Sw J q h with h|⟨vals,H0,r,h1,h2,h3⟩;exact(q h).elim;exact xyM h2 (T3 (O _ _ _ h1) λ e1 s1⟨g1,g2⟩=>by rw[g1,g2];exact h3))|n+1,s,K,h=>by rcases Sw J q h with h|⟨vals,H0,r,h1,h2,h3⟩;refine xF4 (mg (hR s _ h) λ e s' h=>?_);(cases e with|normal=>exact xwR J q O hR n s' K h|_=>exact h);exact xyM h2 (T3 (O _ _ _ h1) λ e1 s1⟨g1,g2⟩=>by rw[g1,g2];exact h3)
def oJ(Q:P.follows .mixedOrders)(O:bP Inv)(J:Inv.pin=E.pin)(q:¬ good bad)(V:di P Inv E):∀(c:Code)(s:St)(K:Exit->St->T),cV P Inv E c->good (X P E bad c s K)->bL P Inv c (λ e s'=>good (K e s')) s
 |.skip,s,K,_,h=>Ta h
 |.region id ops draw,s,K,_,h=>xGd Q O q V h
 |.seq a b,s,K,hl,h=>by
  unfold X at h;split at h;rename_i hr;split at h;rename_i lp W;exact Ry J q (hl.2 (.seq a b) (by simp[jJ,hr]) lp W) h;exact(q h).elim;rename_i hr;exact pU (mg (oJ Q O J q V a s _ (hl.sub (fun l hm=>by simp [jX,hr,hm]) (fun l hm=>by simp [jJ,hr,hm])) h) fun e s' hq=>by
   cases e with
   | normal=>exact oJ Q O J q V b s' K (hl.sub (λ l hm=>by simp[jX,hr,hm]) (λ l hm=>by simp[jJ,hr,hm])) hq
   | _=>exact hq)
 |.cond c a b,s,K,hl,h=>by unfold X at h;split at h;rename_i lp W;exact Ry J q (hl.2 (.cond c a b) (by simp[jJ]) lp W) h;split at h;(case h_2=>exact(q h).elim);rename_i t ht;refine Le ht (λ e=>?_) (λ e=>?_);subst e;change good (lj E c true s λ s=>X P E bad a s K)at h;rw[VK ht]at h;exact oJ Q O J q V a s K (hl.sub (λ l hm=>by simp[jX,hm]) (λ l hm=>by simp[jJ,hm])) h;subst e;change good (lj E c false s λ s=>X P E bad b s K)at h;rw[VK ht]at h;exact oJ Q O J q V b s K (hl.sub (λ l hm=>by simp[jX,hm]) (λ l hm=>by simp[jJ,hm])) h
 |.block id c,s,K,hl,h=>
  So (mg (oJ Q O J q V c s _ (hl.sub (fun l hm=>by simpa [jX] using hm) (fun l hm=>by simpa [jJ] using hm)) h) fun e s' hq=>by
   cases e with
   | exit id'=>
    simp only[nw];split
    . rename_i Y;simp only[Y,if_true]at hq;exact hq
    . rename_i Y;simp only[Y,if_false]at hq;exact hq
   | _=>exact hq)
 |.loop c,s,K,hl,h=>by unfold X at h;split at h;rename_i lp W;exact Nl (xwR J q (hl.1 c (by simp[jX]) lp W) (λ s K h=>oJ Q O J q V c s K (hl.sub (λ l hm=>by simp[jX,hm]) (λ l hm=>by simp[jJ,hm])) h) _ _ _ h);exact xD4 q (λ s K h=>oJ Q O J q V c s K (hl.sub (λ l hm=>by simp[jX,hm]) (λ l hm=>by simp[jJ,hm])) h) h
 |.exit id,s,K,_,h=>UZ h
 |.ret,s,K,_,h=>We h
 |.rangeFunc g ps a b,s,K,hl,h=>by unfold X at h;split at h;rename_i lp W;exact Ry J q (hl.2 (.rangeFunc g ps a b) (by simp[jJ]) lp W) h;exact(q h).elim
 |.scope _,s,K,_,h=>(q (by simpa[X]using h)).elim
 |.label _,s,K,_,h=>(q (by simpa[X]using h)).elim
 |.goto _,s,K,_,h=>(q (by simpa[X]using h)).elim
 |.refuse _,s,K,_,h=>(q (by simpa[X]using h)).elim
end sound
def jo(P:Program)(ls:TypeId->Bool)(s:St):ResultVar->Option (Bool×AV)|.tmp t=>some (true,s.tmps.getD t .top)|.cell a t=>match bN P t with|some ti=>jV P ls t s.heap ti (s.tmps.getD a .top)|none=>none
def xvE{ls:TypeId->Bool}{r:ResultVar}{x:AV}(hx:jo P ls s r=some (true,x)):gr P s r=some x:=by cases r with|tmp t=>simpa[jo,gr]using hx|cell a t=>simp only[jo]at hx;simp only[gr];split at hx;(case h_2=>simp at hx);rename_i ti q;simp only[q];exact xvo hx
def jm(P:Program)(ls:TypeId->Bool)(s:St):List ResultVar->Option (Bool×List AV)|[]=>some (true,[])|r::rs=>match jo P ls s r with|some (b,x)=>(match iM s.heap eI x with|some (b',y)=>(match jm P ls s rs with|some (b'',ys)=>some (b&&(b'&&b''),y::ys)|none=>none)|none=>none)|none=>none
def Rm{ls:TypeId->Bool}:∀{rs:List ResultVar}{ys:List AV},jm P ls s rs=some (true,ys)->iL P s rs=some ys
 |[],ys,h=>by simp only[jm,z6,zb,true_and]at h;subst h;rfl
 |r::rs,ys,h=>by
  unfold jm at h;split at h
  case h_2=>simp at h
  rename_i b x hx;split at h
  case h_2=>simp at h
  rename_i b' y hy;split at h
  case h_2=>simp at h
  rename_i q zs hz;simp only[z6,zb,zf]at h;obtain⟨⟨rfl,rfl,rfl⟩,rfl⟩:=h;unfold iL;simp only[xvE hx,Rm hz,F1 _ _ _ hy]
def oW(P:Program)(ls:TypeId->Bool)(rs:List ResultVar)(s:St):Option AV:=match jm P ls s rs with|some (b,xs)=>br b (jQ xs λ ys=>some (o5 ys)) none|none=>none
def qe(P:Program)(ls:TypeId->Bool)(rs:List ResultVar):Exit->St->Option AV|.ret,s=>oW P ls rs s|.normal,s=>oW P ls rs s|_,_=>none
def XF(P:Program)(E:cZ)(fn:Func)(c:Code)(args:List AV):Option AV:=jQ (args++List.replicate (fn.ntmps - args.length) (.tuple [])) λ ts=>X P E none c ⟨ts,[]⟩ (qe P E.ls fn.results.toList)
variable {args:List AV}
def xFC{E:cZ}(V:P.follows .mixedOrders)(O:bP Inv)(Q:Inv.pin=E.pin)(W:di P Inv E){f:FuncId}{fn:Func}{r:AV}(hf:P.funcs[f]?=some fn)(hb:fn.body=some c)(q:(fn.name == "runtime.NumGoroutine")=false)(hl:cV P Inv E c)(h:XF P E fn c args=some r):Good P Inv f args r:=by refine WB O hf hb q ?_;unfold XF at h;rw[kH]at h;refine mg (oJ (good:=λ t=>t=some r) V O Q Ψ W c _ _ hl h) λ e s hq=>?_;(have J:∀s,oW P E.ls fn.results.toList s=some r->eG P fn.results.toList s=some r:=λ s h=>by unfold oW at h;split at h;(case h_2=>simp at h);rename_i b xs hx;obtain⟨rfl,h⟩:=jZ (good:=λ t=>t=some r) Ψ h;rw[kH]at h;unfold eG;rw[Rm hx];exact h);cases e with|ret=>exact⟨.inl rfl,J s hq⟩|normal=>exact⟨.inr rfl,J s hq⟩|_=>simp[qe]at hq
def dA(P:Program)(s:St):List ResultVar->Option (List AV)|[]=>some []|r::rs=>match gr P s r with|some x=>(match dA P s rs with|some xs=>some (x::xs)|none=>none)|none=>none
variable {M:Id->Option MB}{a:Act}{w0:World}
def xwD{w:World}{A0:Cx}{A:Nat->Prop}(hs:SR w0 A0 w A M s a):∀{rs:List ResultVar}{xs:List AV},dA P s rs=some xs->
  ∃vs,(rs.mapM (resF a.tmps)).run P w=.ok vs w/\RC w A M vs xs
 |[],xs,h=>by
  simp only[dA,z6]at h;subst h;exact⟨[],by simp,rfl,by simp⟩
 |r::rs,xs,h=>by
  unfold dA at h;split at h
  case h_2=>simp at h
  rename_i x hx;split at h
  case h_2=>simp at h
  rename_i ys O;cases h;obtain⟨v,hv,J⟩:=xzm hs hx;obtain⟨vs,Q,q⟩:=xwD hs O;refine⟨v::vs,?_,by simp[q.1],λ i hi=>?_⟩
  . rw[List.mapM_cons];simp only[Sem.run_bind,hv,Q,Result.andThen_ok,Sem.run_pure]
  . cases i with
    |zero=>simpa using J
    |succ i=>have:=q.2 i (by simp at hi;omega);simpa using this
def Kg{w:World}{A0:Cx}{A:Nat->Prop}(hs:SR w0 A0 w A M s a){fn:Func}(h:dA P s fn.results.toList=some xs):∃v,(results fn a.tmps).run P w=.ok v w/\aD w A M v (o5 xs):=by obtain⟨vs,J,q⟩:=xwD (P:=P) hs h;refine⟨if h:vs.toArray.size=1 then vs.toArray[0]else .tuple vs.toArray,?_,?_⟩;rw[xzn,Array.mapM_eq_mapM_toList];simp only[Sem.run_bind,Sem.run_map,J,Result.andThen_ok,Sem.run_pure];have hl:=q.1;have hr:=q.2;match vs,xs,hl,hr with|[v],[x],_,hr=>simpa[o5]using hr 0 Ψ|[],[],_,_=>simpa[o5]using aD.tuple (w:=w) (A:=A) (M:=M) #[] [] rfl Ψ|v1::v2::vs,x1::x2::xs,hl,hr=>(have hne:¬ (v1::v2::vs).toArray.size=1:=by simp);rw[dif_neg hne];simp only[o5];refine .tuple _ _ (by simpa using hl) λ i hi=>?_;rw[yk];exact hr i hi
variable {H':List aC}
def xIU(ac:bP Inv){f:FuncId}{fn:Func}{r:AV}(hf:P.funcs[f]?=some fn)(hb:fn.body=some c)(Q:(fn.name == "runtime.NumGoroutine")=false)(ab:H.length=Inv.pin)(h:bL P Inv c (λ e s=>(e=.ret\/e=.normal)/\∃xs ids,dA P s fn.results.toList=some xs/\ef ids/\gp Inv.pin 0 ids/\jk Inv.pin (dV Inv.pin ids s.heap) s.heap 0 ids=some H'/\ren (dV Inv.pin ids s.heap) (o5 xs)=r) ⟨args++List.replicate (fn.ntmps - args.length) (.tuple []),H⟩):bG P Inv f args H r H':=by
 refine⟨⟨fn,hf,by rw[hb];rfl,Q⟩,λ w0 w A M vs hI O hR J=>?_⟩;refine callsIn_wide.1 (callsIn_of_wp_marks (F:=Fence.wide) (n:=0) hf hb trivial ?_);refine h w0 ⟨A,w,A,M,H.length,λ _=>False⟩ w A M _ _ hI (by simp only[];omega) ⟨O,λ _ _=>Iff.rfl,?_,λ t ht=>?_,hR,eA.nil,Ev.refl (C:=⟨A,w,A,M,H.length,λ _=>False⟩)⟩ ?_ none (λ _=>rfl);simp[J.1];simp only[z8,List.length_replicate]at ht;have hl:=J.1;by_cases V:t<args.length;have e1:(vs.toArray++Array.replicate (fn.ntmps - vs.toArray.size) undef).getD t undef=vs.getD t undef:=by(have:t<vs.length:=Ω);simp[z7,Array.getElem?_append,this]
 have e2:(args++List.replicate (fn.ntmps - args.length) (AV.tuple [])).getD t .top=args.getD t .top:=by simp[z7,zP,V]
 rw[e1,e2];exact J.2 t V;have h1:¬ t<vs.length:=Ω
 have e1:(vs.toArray++Array.replicate (fn.ntmps - vs.toArray.size) undef).getD t undef=undef:=by(have h2:t - vs.length<fn.ntmps - vs.length:=Ω);simp[Array.getElem?_append,h1,h2]
 have e2:(args++List.replicate (fn.ntmps - args.length) (AV.tuple [])).getD t .top=.tuple []:=by(have h2:t - args.length<fn.ntmps - args.length:=Ω);simp[z7,zP,V,h2]
 rw[e1,e2];exact .tuple #[] [] rfl Ψ;rintro e s' a' w' ⟨he,xs,ids,hx,Y,aa,Z,rfl⟩ ⟨A',M',q⟩;have:LeavesInM Fence.wide 0 P fn a'.tmps (λ e w'=>∃v A' M',e=.returned v/\Below w0.heap.size w0 w'/\(∀b,b<w0.heap.size->(A' b↔A b))/\Ev ⟨A,w,A,M,H.length,λ _=>False⟩ w' A' M'/\HR w' A' M' w0.heap.size H'/\aD w' A' M' v (ren (dV Inv.pin ids s'.heap) (o5 xs))) a'.defers .returning w':=Gb (λ _ h=>h) q λ w' q=>by obtain⟨v,hv,W⟩:=Kg (P:=P) q hx;obtain⟨M2,g1,g2,g3,g4⟩:=q.heap.norm Y aa Z;exact⟨v,hv,v,A',M2,rfl,q.base,q.outer,q.ev.norm (by simp only[];omega) g3 g4,g1,W.ren g2⟩
 rcases he with rfl|rfl<;>exact this
def gX(P:Program)(ls:TypeId->Bool)(s:St):List ResultVar->Option (Bool×List AV)|[]=>some (true,[])|r::rs=>match jo P ls s r with|some (b,x)=>(match gX P ls s rs with|some (b',xs)=>some (b&&b',x::xs)|none=>none)|none=>none
def xuK{ls:TypeId->Bool}:∀{rs:List ResultVar}{ys:List AV},gX P ls s rs=some (true,ys)->dA P s rs=some ys
 |[],ys,h=>by simp only[gX,z6,zb,true_and]at h;subst h;rfl
 |r::rs,ys,h=>by
  unfold gX at h;split at h
  case h_2=>simp at h
  rename_i b x hx;split at h
  case h_2=>simp at h
  rename_i b' zs hz;simp only[z6,zb,zf]at h;obtain⟨⟨rfl,rfl⟩,rfl⟩:=h;unfold dA;simp only[xvE hx,xuK hz]
def so(P:Program)(pin:Nat)(ls:TypeId->Bool)(rs:List ResultVar)(s:St):Option (AV×List aC):=match gX P ls s rs with|some (b,xs)=>(br b (match ef (gather s.heap 1000 (List.range pin++refsOf.refsL xs) [])&&gp pin 0 (gather s.heap 1000 (List.range pin++refsOf.refsL xs) []) with|true=>(match jk pin (dV pin (gather s.heap 1000 (List.range pin++refsOf.refsL xs) []) s.heap) s.heap 0 (gather s.heap 1000 (List.range pin++refsOf.refsL xs) [])with|some H'=>dg (ren (dV pin (gather s.heap 1000 (List.range pin++refsOf.refsL xs) []) s.heap) (o5 xs)) λ r=>kD H' λ H'=>some (r,H')|none=>none)|false=>none) none)|none=>none
def Dd(P:Program)(pin:Nat)(ls:TypeId->Bool)(rs:List ResultVar):Exit->St->Option (AV×List aC)|.ret,s=>so P pin ls rs s|.normal,s=>so P pin ls rs s|_,_=>none
def l6(P:Program)(E:cZ)(fn:Func)(c:Code)(args:List AV)(H:List aC):Option (AV×List aC):=jQ (args++List.replicate (fn.ntmps - args.length) (.tuple [])) λ ts=>X P E none c ⟨ts,H⟩ (Dd P E.pin E.ls fn.results.toList)
def xCq{E:cZ}(V:P.follows .mixedOrders)(Q:bP Inv)(q:Inv.pin=E.pin)(Y:di P Inv E){f:FuncId}{fn:Func}{r:AV}(hH:H.length=E.pin)(hf:P.funcs[f]?=some fn)(hb:fn.body=some c)(J:(fn.name == "runtime.NumGoroutine")=false)(hl:cV P Inv E c)(h:l6 P E fn c args H=some (r,H')):bG P Inv f args H r H':=by refine xIU Q hf hb J (by rw[hH,q]) ?_;unfold l6 at h;rw[kH]at h;refine mg (oJ (good:=λ t=>t=some (r,H')) V Q q Ψ Y c _ _ hl h) λ e s hq=>?_;(have O:∀s,so P E.pin E.ls fn.results.toList s=some (r,H')->∃xs ids,dA P s fn.results.toList=some xs/\ef ids/\gp Inv.pin 0 ids/\jk Inv.pin (dV Inv.pin ids s.heap) s.heap 0 ids=some H'/\ren (dV Inv.pin ids s.heap) (o5 xs)=r:=λ s h=>by unfold so at h;split at h;(case h_2=>simp at h);rename_i b xs hx;have ⟨Z,h1⟩:=jZ (good:=λ t=>t=some (r,H')) Ψ h;clear h;have h:=h1;clear h1;subst Z;generalize aa:gather s.heap 1000 (List.range E.pin++refsOf.refsL xs) []=ids at h;split at h;(case h_2=>simp at h);rename_i hc;simp only[zf]at hc;split at h;(case h_2=>simp at h);rename_i H1 W;rw[mf,lR]at h;cases h;rw[q];exact⟨xs,ids,xuK hx,hc.1,hc.2,W,rfl⟩);cases e with|ret=>exact⟨.inl rfl,O s hq⟩|normal=>exact⟨.inr rfl,O s hq⟩|_=>simp[Dd]at hq
def iterN{σ ρ:Type}(step:σ->Option (σ⊕ρ)):Nat->σ->Option ρ|0,_=>none|n+1,s=>match step s with|some (.inl s')=>iterN step n s'|some (.inr r)=>some r|none=>none
open Classical in
noncomputable def aB{σ ρ:Type}(step:σ->Option (σ⊕ρ))(s:σ):Option ρ:=
 if h:∃r n,iterN step n s=some r then some h.choose else none
def Rz{σ ρ:Type}{step:σ->Option (σ⊕ρ)}:∀{n m:Nat}{s:σ}{r:ρ},iterN step n s=some r->n<=m->iterN step m s=some r|0,_,_,_,h,_=>by simp[iterN]at h|n+1,0,_,_,_,hm=>by omega|n+1,m+1,s,r,h,hm=>by simp only[iterN]at h|-;cases hs:step s with|none=>rw[hs]at h;simp at h|some x=>rw[hs]at h;cases x with|inl s'=>exact Rz (n:=n) h Ω|inr r'=>exact h
def Gj{σ ρ:Type}{step:σ->Option (σ⊕ρ)}{s:σ}{r:ρ}:aB step s=some r↔∃n,iterN step n s=some r:=by unfold aB;constructor;intro h;split at h;rename_i q;obtain⟨n,hn⟩:=q.choose_spec;simp only[z6]at h;exact⟨n,by rw[hn,h]⟩;simp at h;rintro⟨n,hn⟩;have q:∃r n,iterN step n s=some r:=⟨r,n,hn⟩;rw[dif_pos q];obtain⟨n',J⟩:=q.choose_spec;have h1:=Rz hn (Nat.le_max_left n n');have h2:=Rz J (Nat.le_max_right n n');rw[h1]at h2;exact h2.symm
def eH{σ ρ:Type}{step:σ->Option (σ⊕ρ)}{s s':σ}(h:step s=some (.inl s')):aB step s=aB step s':=by apply Option.ext;intro r;rw[Gj,Gj];constructor;(rintro⟨n,hn⟩;cases n with|zero=>simp[iterN]at hn|succ n=>simp only[iterN,h]at hn;exact⟨n,hn⟩);rintro⟨n,hn⟩;exact⟨n+1,by simp only[iterN,h];exact hn⟩
def cQ{σ ρ:Type}{step:σ->Option (σ⊕ρ)}{s:σ}{r:ρ}(h:step s=some (.inr r)):aB step s=some r:=Gj.2 ⟨1,by simp only[iterN,h]⟩
def U0(h:bL P Inv c (λ e s1=>∃s',dC Inv.pin s1 s'/\Q e s') s):bL P Inv c Q s:=λ w0 A0 w A M a Qc hI hp hs hQ=>h w0 A0 w A M a Qc hI hp hs λ e s1 a' w'⟨s',hw,hq⟩⟨A',M',hs'⟩=>by obtain⟨A'',M'',q⟩:=hw w0 A0 w' A' M' a' hp hs';exact hQ e s' a' w' hq ⟨A'',M'',q⟩
def xHx(h:fg P Inv c (λ e s1=>∃s',dC Inv.pin s1 s'/\Q e s') s):fg P Inv c Q s:=λ w0 A0 w A M a Qc hI hp hs hQ=>h w0 A0 w A M a Qc hI hp hs λ e s1 a' w'⟨s',hw,hq⟩⟨A',M',hs'⟩=>by obtain⟨A'',M'',q⟩:=hw w0 A0 w' A' M' a' hp hs';exact hQ e s' a' w' hq ⟨A'',M'',q⟩
def XR(P:Program)(E:cZ)(live liveO:List Nat)(conv:List (Nat×Nat×TypeId))(c:Code)(vals:List AV)(H:List aC):Option (Exit×List AV×List aC):=jQ (aX E.nt (live.zip vals)) λ ts=>X P E none c ⟨ts,H⟩ λ e s'=>match e with|.normal=>(match gw E.pin conv live s' with|some (vs,H')=>jQ vs λ vs=>kD H' λ H'=>br (Nat.beq s'.tmps.length E.nt) (some (.normal,vs,H')) none|none=>none)|e=>match gw E.pin [] liveO s' with|some (vs,H')=>jQ vs λ vs=>kD H' λ H'=>br (Nat.beq s'.tmps.length E.nt) (some (e,vs,H')) none|none=>none
def XC(P:Program)(E:cZ)(live liveO:List Nat)(c:Code)(vals:List AV)(H:List aC):Option (Exit×List AV×List aC):=jQ (aX E.nt (live.zip vals)) λ ts=>X P E none c ⟨ts,H⟩ λ e s'=>match gw E.pin [] liveO s' with|some (vs,H')=>jQ vs λ vs=>kD H' λ H'=>br (Nat.beq s'.tmps.length E.nt) (some (e,vs,H')) none|none=>none
variable {live liveO:List Nat}
def xwy{E:cZ}(Q:P.follows .mixedOrders)(O:bP Inv)(q:Inv.pin=E.pin)(V:di P Inv E)(W:cV P Inv E c){vals:List AV}{r:LR}(h:XC P E live liveO c vals H=some r.eval):bL P Inv c (λ e1 s1=>e1=r.eval.1/\s1=⟨aX E.nt (liveO.zip r.eval.2.1),r.eval.2.2⟩) ⟨aX E.nt (live.zip vals),H⟩:=by unfold XC at h;rw[kH]at h;refine U0 (mg (oJ (good:=λ t=>t=some r.eval) Q O q Ψ V c _ _ W h) λ e s' hq=>?_);split at hq;(case h_2=>simp at hq);rename_i Y H1 J;rw[kH,lR]at hq;obtain⟨h1,h2⟩:=jZ (good:=λ t=>t=some r.eval) Ψ hq;have hw:=vn J;rw[zg h1,<-q]at hw;simp only[z6]at h2;exact⟨_,hw,by rw[<-h2],by rw[<-h2]⟩
def encR{σ ρ:Type}(L:σ->List AV×List aC)(out:ρ->LR):σ⊕ρ->Exit×List AV×List aC|.inl s=>(.normal,(L s).1,(L s).2)|.inr r=>(out r).eval
def Ct{σ ρ:Type}{E:cZ}(W:P.follows .mixedOrders)(V:bP Inv)(J:Inv.pin=E.pin)(Y:di P Inv E)(Z:cV P Inv E c){conv:List (Nat×Nat×TypeId)}{step:σ->Option (σ⊕ρ)}(L:σ->List AV×List aC)(out:ρ->LR)
  (O:∀r,(out r).eval.1≠.normal)
  (q:∀s r,step s=some r->XR P E live liveO conv c (L s).1 (L s).2=some (encR L out r)) {s:σ} {r:ρ} (h:aB step s=some r):
  fg P Inv c (λ e1 s1=>e1=(out r).eval.1/\s1=⟨aX E.nt (liveO.zip (out r).eval.2.1),(out r).eval.2.2⟩) ⟨aX E.nt (live.zip (L s).1),(L s).2⟩:=by
 obtain⟨n,hn⟩:=Gj.1 h;refine xHx (Sp (λ n s=>∃b,iterN step n b=some r/\s=⟨aX E.nt (live.zip (L b).1),(L b).2⟩) (n0:=n) (dC.refl _ _) ⟨s,hn,rfl⟩ ?_)
 rintro n s1 ⟨b,hb,rfl⟩;have run:∀(e0:Exit)(vs:List AV)(H':List aC),XR P E live liveO conv c (L b).1 (L b).2=some (e0,vs,H')->bL P Inv c (λ e s'=>e=e0/\dC Inv.pin s' ⟨aX E.nt ((match e with|.normal=>live|_=>liveO).zip vs),H'⟩) ⟨aX E.nt (live.zip (L b).1),(L b).2⟩:=λ e0 vs H' hx=>by
  unfold XR at hx;rw[kH]at hx;refine mg (oJ (good:=λ t=>t=some (e0,vs,H')) W V J Ψ Y c _ _ Z hx) λ e s' hq=>?_
  have key:∀ (cv:List (Nat×Nat×TypeId)) (lv:List Nat) (e':Exit),(match gw E.pin cv lv s' with
    |some (vs,H')=>jQ vs λ vs=>kD H' λ H'=>br (Nat.beq s'.tmps.length E.nt) (some (e',vs,H')) none
    |none=>none)=some (e0,vs,H')->e'=e0/\dC Inv.pin s' ⟨aX E.nt (lv.zip vs),H'⟩:=fun cv lv e' hq=>by
   split at hq
   case h_2=>simp at hq
   rename_i aa H1 Q;rw[kH,lR]at hq;obtain⟨h1,h2⟩:=jZ (good:=λ t=>t=some (e0,vs,H')) Ψ hq
   simp only[z6,zb]at h2;obtain⟨rfl,rfl,rfl⟩:=h2;have hw:=vn Q;rw[zg h1,<-J]at hw;exact⟨rfl,hw⟩
  cases e with
  |normal=>exact key conv live .normal hq
  |exit id=>exact key [] liveO (.exit id) hq
  |ret=>exact key [] liveO .ret hq
  |goto l=>exact key [] liveO (.goto l) hq
  |panic ch=>exact key [] liveO (.panic ch) hq
  |outgrown=>exact key [] liveO .outgrown hq
 cases n with
 |zero=>simp[iterN]at hb
 |succ n=>
  unfold iterN at hb;split at hb
  . rename_i b' hs;have hx:=q b _ hs;refine mg (run _ _ _ hx) λ e s'⟨he,hw⟩=>?_
    subst he;exact⟨n,_,Nat.lt_succ_self n,hw,b',hb,rfl⟩
  . rename_i r' hs;simp only[z6]at hb;subst hb;have hx:=q b _ hs;refine mg (run _ _ _ hx) λ e s'⟨he,hw⟩=>?_
    have hne:=O r';rw[<-he]at hne;have:∃s'',dC Inv.pin s' s''/\e=(out r').eval.1/\s''=⟨aX E.nt (liveO.zip (out r').eval.2.1),(out r').eval.2.2⟩:=by
     refine⟨_,?_,he,rfl⟩;cases e<;>first|exact(hne rfl).elim|exact hw
    cases e with
    |normal=>exact(hne rfl).elim
    |_=>exact this
  . simp at hb
end Go.Sim
