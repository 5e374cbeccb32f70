/- Part 5. -/
import Derived.Test.YtodofdnlhoknhaaGreatDoorTS4
set_option linter.all false
noncomputable section
namespace Go.Sim
open Go.RowKit
section cps
variable{T:Type}
noncomputable def br(t:Bool)(a b:T):T:=match t with|true=>a|false=>b
mutual
def dg:AV->(AV->T)->T|.agg cs,K=>jQ cs λ q=>K (.agg q)|.tuple cs,K=>jQ cs λ q=>K (.tuple q)|.func f cs,K=>jQ cs λ q=>K (.func f q)|.top,K=>K .top|.bool b,K=>K (.bool b)|.int k n,K=>K (.int k n)|.str s,K=>K (.str s)|.nils,K=>K .nils|.list sz xs,K=>K (.list sz xs)|.eptr sz xs i j,K=>K (.eptr sz xs i j)|.own id ver i j,K=>K (.own id ver i j)|.osl id ver off len,K=>K (.osl id ver off len)|.nilptr,K=>K .nilptr|.nilfn,K=>K .nilfn|.empt,K=>K .empt|.gptr g,K=>K (.gptr g)|.yld g,K=>K (.yld g)
def jQ:List AV->(List AV->T)->T|[],K=>K []|x::xs,K=>dg x λ x'=>jQ xs λ q=>K (x'::q)
end
mutual
def mf:∀(x:AV)(K:AV->T),dg x K=K x|.agg cs,K=>by simp only[dg];exact kH cs _|.tuple cs,K=>by simp only[dg];exact kH cs _|.func f cs,K=>by simp only[dg];exact kH cs _|.top,K=>rfl|.bool b,K=>rfl|.int k n,K=>rfl|.str s,K=>rfl|.nils,K=>rfl|.list sz xs,K=>rfl|.eptr sz xs i j,K=>rfl|.own id ver i j,K=>rfl|.osl id ver off len,K=>rfl|.nilptr,K=>rfl|.nilfn,K=>rfl|.empt,K=>rfl|.gptr g,K=>rfl|.yld g,K=>rfl
def kH:∀(xs:List AV)(K:List AV->T),jQ xs K=K xs|[],K=>rfl|x::xs,K=>by simp only[jQ];rw[mf x];exact kH xs _
end
def nJ:List AV->Nat->AV->(List AV->T)->T|[],_,_,K=>K []|_::xs,0,v,K=>K (v::xs)|x::xs,n+1,v,K=>nJ xs n v λ l=>K (x::l)
def yJ:∀(xs:List AV)(n:Nat)(v:AV)(K:List AV->T),nJ xs n v K=K (xs.set n v)|[],_,_,K=>rfl|_::xs,0,v,K=>rfl|x::xs,n+1,v,K=>by simp only[nJ];rw[yJ xs n v];rfl
def fj(ts:List AV)(d:Option Tmp)(v:AV)(K:List AV->T):T:=match d with|some d=>nJ ts d v K|none=>K ts
def mh(ts:List AV)(d:Option Tmp)(v:AV)(K:List AV->T):fj ts d v K=K (bC ts d v):=by cases d with|none=>rfl|some d=>exact yJ ts d v K
def nC(b:Bool)(K:Bool->T):T:=match b with|true=>K true|false=>K false
def T5(b:Bool)(K:Bool->T):nC b K=K b:=by cases b<;>rfl
def kD:List aC->(List aC->T)->T|[],K=>K []|⟨a,b,c,xs,f,p⟩::H,K=>nC p λ p'=>nC f λ f'=>kD H λ H'=>K (⟨a,b,c,xs,f',p'⟩::H')
def lR:∀(H:List aC)(K:List aC->T),kD H K=K H|[],K=>rfl|⟨a,b,c,xs,f,p⟩::H,K=>by simp only[kD];rw[T5,T5,lR H]
end cps
noncomputable def AV.toInt:AV->Int|.int _ n=>n|_=>0
def AV.toStr:AV->List UInt8|.str s=>s|_=>[]
def AV.toBool:AV->Bool|.bool b=>b|_=>false
inductive Sh where|any|int (k:IntKind)|str|bool|list (sz:Nat)
def dw:Sh->AV->Bool|.int k,.int k' _=>decide (k=k')|.int _,_=>false|.str,.str _=>true|.str,_=>false|.bool,.bool _=>true|.bool,_=>false|.list sz,.list sz' _=>Nat.beq sz sz'|.list _,_=>false|.any,_=>true
def oV(z:Sh)(x:AV):AV:=match z with|.int k=>.int k x.toInt|.str=>.str x.toStr|.bool=>.bool x.toBool|.list sz=>.list sz x.toList|.any=>x
variable {x:AV}
def Ly{z:Sh}(h:dw z x):oV z x=x:=by cases z<;>cases x<;>first|rfl|(simp[dw]at h;done)|(simp[dw]at h;subst h;rfl)
def ew:List Sh->List AV->Nat->Bool|[],_,_=>true|z::zs,cs,j=>dw z (cs.getD j .top)&&ew zs cs (j+1)
def qg:List Sh->List AV->Nat->List AV|[],_,_=>[]|z::zs,cs,j=>oV z (cs.getD j .top)::qg zs cs (j+1)
def Wy:∀{zs:List Sh}{cs:List AV}{j:Nat},ew zs cs j->j+zs.length<=cs.length->qg zs cs j=(cs.drop j).take zs.length|[],cs,j,_,_=>by simp[qg]|z::zs,cs,j,h,hl=>by(simp only[ew,zf]at h;simp only[zF]at hl|-;have hj:j<cs.length:=Ω);rw[qg,Ly h.1,Wy h.2 Ω,List.drop_eq_getElem_cons hj,List.take_succ_cons];simp[z7,hj]
def fX(P:Program)(ls:Bool):Nat->TypeId->List Sh|0,_=>[]|n+1,t=>match P.underlying t with|some (.int k)=>[.int k]|some .string=>[.str]|some .bool=>[.bool]|some (.slice e)=>(match ls,bN P e with|true,some te=>[.list te.sz]|_,_=>[.any])|some (.struct fs)=>fs.toList.flatMap λ f=>fX P ls n f.type|some (.array m e)=>(List.replicate m (fX P ls n e)).flatten|_=>[.any]
def ij(H:List aC)(id:Id)(ver:Nat):Option (Bool×aC):=match id with|.b n=>(match H[n]? with|some bx=>(match dD bx.ty with|true=>none|false=>some (bx.ver==ver,bx))|none=>none)|.r n i j=>match H[n]? with|some bx=>(match de bx.ty j,bx.pm with|true,true=>some (decide (i<bx.xs.length)&&(jW (fF bx.ty) ((bx.xs.getD i .top).cells.getD j .top)&&(2*((bx.xs.getD i .top).cells.getD j .top).toList.length==ver)),⟨2*((bx.xs.getD i .top).cells.getD j .top).toList.length,fF bx.ty,bM bx.ty,((bx.xs.getD i .top).cells.getD j .top).toList,bx.frz,true⟩)|_,_=>none)|none=>none
variable {H:List aC}
def lW{id:Id}{ver:Nat}{bx:aC}(h:ij H id ver=some (true,bx)):dW H id ver=some bx:=by
 unfold ij at h;unfold dW;split at h;split at h;rename_i b hb;split at h;simp at h;rename_i q;simp only[z6,zb,beq_iff_eq]at h;obtain⟨h1,rfl⟩:=h;simp only[getB,hb];exact if_pos ⟨h1,q⟩;simp at h;rename_i n i j;split at h;case h_2=>simp at h
 rename_i b hb;split at h;case h_2=>simp at h
 rename_i hs hp;simp only[z6,zb,zf,zl,beq_iff_eq]at h;obtain⟨⟨h0,h1,h2⟩,rfl⟩:=h;obtain⟨ys,hy⟩:=vl h1;rw[hy]at h2|-;rw[oH hb (pN hs) hs hp h0,hy];simp only[AV.toList]at h2;simp only[iT,AV.toList];exact if_pos ⟨h2,kG (pf _)⟩
def od(zs:List Sh)(ti:TI)(sz:Nat)(x:AV)(j:Nat):Option (Bool×AV):=
 if j+ti.sz<=sz/\zs.length=ti.sz then
  if ti.agg then some ((x.cells.length==sz)&&ew zs x.cells j,.agg (qg zs x.cells j))
  else match zs with
   |[z]=>some (dw z (x.cells.getD j .top),oV z (x.cells.getD j .top))
   |_=>none
 else none
variable {j sz:Nat}{ti:TI}{zs:List Sh}
def xyX{r:AV}(h:od zs ti sz x j=some (true,r)):eQ ti sz x.cells j=some r:=by
 unfold od at h;unfold eQ;split at h;case isFalse=>simp at h
 rename_i hj;obtain⟨hj,hz⟩:=hj;rw[if_pos hj];split at h;rename_i ha;rw[if_pos ha];simp only[z6,zb,zf,beq_iff_eq]at h;obtain⟨⟨h1,h2⟩,rfl⟩:=h;rw[Wy h2 Ω,hz];rename_i ha;rw[if_neg ha];split at h;case h_2=>simp at h
 rename_i z;rw[if_pos (by simpa using hz.symm)];simp only[z6,zb]at h;rw[<-h.2,Ly h.1]
variable {i:Nat}
def Gt{xs:List AV}(h:i<xs.length):xs[i]?=some (xs.getD i .top):=by simp[z7,h]
def qo(zs:List Sh)(ti:TI)(n i j:Nat)(bx:aC):Option (Bool×AV):=
 if j<bx.sz/\ti.sz=1/\ti.agg=false then
  match de bx.ty j with
  |true=>some (jW (fF bx.ty) ((bx.xs.getD i .top).cells.getD j .top)&&((bx.xs.getD i .top).cells.length==bx.sz),.osl (.r n i j) (2*((bx.xs.getD i .top).cells.getD j .top).toList.length) 0 ((bx.xs.getD i .top).cells.getD j .top).toList.length)
  |false=>match zs with
   |[z]=>some (dw z ((bx.xs.getD i .top).cells.getD j .top)&&((bx.xs.getD i .top).cells.length==bx.sz),oV z ((bx.xs.getD i .top).cells.getD j .top))
   |_=>none
 else none
variable {n:Nat}
def xFF{bx:aC}{r:AV}(h:qo zs ti n i j bx=some (true,r)):eQ ti bx.sz (jI n i bx.ty (bx.xs.getD i .top).cells) j=some r:=by
 unfold qo at h;split at h;case isFalse=>simp at h
 rename_i hc;obtain⟨hj,h1,h2⟩:=hc;unfold eQ;rw[if_pos Ω,if_neg (by rw[h2];simp),if_pos h1];split at h;rename_i hs;simp only[z6,zb,zf,beq_iff_eq]at h;obtain⟨⟨h3,h4⟩,rfl⟩:=h;obtain⟨ys,hy⟩:=vl h3;rw[Su _ _ _ _ _ Ω];unfold fy;rw[hs,hy];rfl;rename_i hs;split at h;case h_2=>simp at h
 rename_i z;simp only[z6,zb,zf,beq_iff_eq]at h;obtain⟨⟨h3,h4⟩,rfl⟩:=h;rw[Su _ _ _ _ _ Ω,Ly h3];unfold fy;rw[hs]
def jV(P:Program)(ls:TypeId->Bool)(t:TypeId)(H:List aC)(ti:TI):AV->Option (Bool×AV)|.eptr sz xs i j=>(match od (fX P (!ls (7000000+t)) 8 t) ti sz (xs.getD i .top) j with|some (b,r)=>some (decide (i<xs.length)&&b,r)|none=>none)|.own id ver i j=>(match ij H id ver with|some (bv,bx)=>(match bW bx.ty with|true=>(match qo (fX P (ls (gA bx.ty)) 8 t) ti id.base i j bx with|some (b,r)=>some (bv&&(decide (i<bx.xs.length)&&b),r)|none=>none)|false=>match od (fX P (ls bx.ty) 8 t) ti bx.sz (bx.xs.getD i .top) j with|some (b,r)=>some (bv&&(decide (i<bx.xs.length)&&b),r)|none=>none)|none=>none)|.func f cs=>(match Nat.beq f vpF,cs with|true,[x]=>if ti.sz=1/\ti.agg=false then some (true,x)else none|_,_=>none)|_=>none
variable {P:Program}{a:AV}
def xvo{ls:TypeId->Bool}{t:TypeId}{r:AV}(h:jV P ls t H ti a=some (true,r)):o6 H ti a=some r:=by
 unfold jV at h;unfold o6;split at h;rename_i sz xs i j;split at h;case h_2=>simp at h
 rename_i b r' hl;simp only[z6,zb,zf,zl]at h;obtain⟨⟨h1,rfl⟩,rfl⟩:=h;simp only[Gt h1];exact xyX hl;rename_i id ver i j;split at h;case h_2=>simp at h
 rename_i bv bx hb;split at h;split at h;case h_2=>simp at h
 rename_i b r' hl;simp only[z6,zb,zf,zl]at h;obtain⟨⟨rfl,h1,rfl⟩,rfl⟩:=h;simp only[lW hb,Gt h1];exact xFF hl;rename_i J;split at h;case h_2=>simp at h
 rename_i b r' hl;simp only[z6,zb,zf,zl]at h;obtain⟨⟨rfl,h1,rfl⟩,rfl⟩:=h;simp only[lW hb,Gt h1];have hv:jI id.base i bx.ty (bx.xs.getD i .top).cells=(bx.xs.getD i .top).cells:=by unfold jI;rw[J]
 rw[hv];exact xyX hl;split at h;rename_i x' q;split at h;case isFalse=>simp at h
 rename_i hc;simp only[z6,zb,true_and]at h;simp only[q];rw[if_pos hc,h];simp at h;simp at h
def wm(P:Program)(op:BinOp)(t:TypeId)(x y:AV):Option (Bool×AV):=match op with|.quo=>(match x,y with|.int k a,.int k' b=>if k=k' then some (!(b==0),.int k (k.wrap (a.tdiv b)))else none|_,_=>none)|.rem=>(match x,y with|.int k a,.int k' b=>if k=k' then some (!(b==0),.int k (a.tmod b))else none|_,_=>none)|.add=>(match x,y with|.str a,.str b=>some (decide (a.length+b.length<=f7),.str (a++b))|_,_=>match iH P .add t x y with|some r=>some (true,r)|none=>none)|op=>match iH P op t x y with|some r=>some (true,r)|none=>none
variable {y:AV}
theorem xGN{op:BinOp}{t:TypeId}{r:AV}(h:wm P op t x y=some (true,r)):iH P op t x y=some r:=by unfold wm iH oc ly lz at *;grind
def n4(x:Option AV)(q len:Nat):Option (Bool×Nat):=match x with|none=>some (true,q)|some (.int _ n)=>some (decide (0<=n)&&decide (n<=(len:Int)),n.toNat)|some _=>none
theorem xyA{x:Option AV}{d len:Nat}(h:n4 x d len=some (true,n)):mt x d len=some n:=by unfold n4 mt at *;grind
def ia(lo hi:Option AV)(len:Nat):Option (Bool×Nat×Nat):=match n4 hi len len with|none=>none|some (b1,h)=>match n4 lo 0 h with|none=>none|some (b2,l)=>some (b1&&b2,l,h)
variable {hi lo:Option AV}
def J8{len l h:Nat}(e:ia lo hi len=some (true,l,h)):um lo hi len=some (l,h):=by unfold ia at e;unfold um;split at e;simp at e;rename_i b1 h' h1;split at e;simp at e;rename_i b2 l' h2;simp only[z6,zb,zf]at e;obtain⟨⟨rfl,rfl⟩,rfl,rfl⟩:=e;rw[xyA h1];simp only[xyA h2]
def nK(P:Program)(H:List aC)(t:TypeId)(x:AV)(lo hi:Option AV):Option (Bool×AV):=match bN P t with|some ti=>(match ti.d,x with|.string,.str s=>(match ia lo hi s.length with|some (b,l,h)=>some (b,.str ((s.drop l).take (h - l)))|none=>none)|.slice e,.list sz xs=>(match bN P e with|some te=>(if te.sz=sz then match ia lo hi xs.length with|some (b,l,h)=>some (b,.list sz ((xs.drop l).take (h - l)))|none=>none else none)|none=>none)|.slice e,.nils=>(match bN P e with|some _=>(match ia lo hi 0 with|some (b,_)=>some (b,.nils)|none=>none)|none=>none)|.slice e,.osl id ver off len=>(match bN P e,ij H id ver with|some te,some (bv,bx)=>(if te.sz=bx.sz then match ia lo hi len with|some (b,l,h)=>some (bv&&b,.osl id ver (off+l) (h - l))|none=>none else none)|_,_=>none)|_,_=>none)|none=>none
def xDU{t:TypeId}{r:AV}(e:nK P H t x lo hi=some (true,r)):un P H t x lo hi=some r:=by
 unfold nK at e;unfold un;split at e;case h_2=>simp at e
 rename_i ti O;simp only[O];split at e;rename_i s hd;split at e;case h_2=>simp at e
 rename_i b l h hb;cases e;simp only[hd,J8 hb];rename_i e' sz xs hd;split at e;case h_2=>simp at e
 rename_i te q;split at e;case isFalse=>simp at e
 rename_i hsz;split at e;case h_2=>simp at e
 rename_i b l h hb;cases e;simp only[hd,q,hsz,if_true,J8 hb];rename_i e' hd;split at e;case h_2=>simp at e
 rename_i te q;split at e;case h_2=>simp at e
 rename_i b lh hb;cases e;simp only[hd,q,J8 hb];rename_i e' id ver off len hd;split at e;case h_2=>simp at e
 rename_i te bv bx q J;split at e;case isFalse=>simp at e
 rename_i hsz;split at e;case h_2=>simp at e
 rename_i b l h hb;simp only[z6,zb,zf]at e;obtain⟨⟨rfl,rfl⟩,rfl⟩:=e;simp only[hd,q,lW J,hsz,if_true,J8 hb];simp at e
def iJ(P:Program)(H:List aC)(t:TypeId)(x ix:AV):Option (Bool×AV):=match bN P t,ix with|some ti,.int _ n=>(match ti.d,x with|.slice e,.list sz xs=>(match bN P e with|some te=>if te.sz=sz then some (decide (0<=n)&&decide (n<(xs.length:Int)),.eptr sz xs n.toNat 0)else none|none=>none)|.slice e,.osl id ver off len=>(match bN P e,ij H id ver with|some te,some (bv,bx)=>if te.sz=bx.sz then some (bv&&(decide (0<=n)&&decide (n<(len:Int))),.own id ver (off+n.toNat) 0)else none|_,_=>none)|.array m e,.own id ver i j=>(match bN P e,ij H id ver with|some te,some (bv,bx)=>some (bv&&(decide (0<=n)&&decide (n<(m:Int))),.own id ver i (j+n.toNat*te.sz))|_,_=>none)|.array m e,.eptr sz xs i j=>(match bN P e with|some te=>some (decide (0<=n)&&decide (n<(m:Int)),.eptr sz xs i (j+n.toNat*te.sz))|none=>none)|_,_=>none)|_,_=>none
def xyT{t:TypeId}{ix r:AV}(e:iJ P H t x ix=some (true,r)):o4 P H t x ix=some r:=by
 unfold iJ at e;unfold o4;split at e;case h_2=>simp at e
 rename_i ti k n O;simp only[O];split at e;rename_i e' sz xs hd;split at e;case h_2=>simp at e
 rename_i te q;split at e;case isFalse=>simp at e
 rename_i hsz;simp only[z6,zb,zf,zl]at e;obtain⟨⟨h1,h2⟩,rfl⟩:=e;simp[hd,q,hsz,h1,h2];rename_i e' id ver off len hd;split at e;case h_2=>simp at e
 rename_i te bv bx q J;split at e;case isFalse=>simp at e
 rename_i hsz;simp only[z6,zb,zf,zl]at e;obtain⟨⟨rfl,h1,h2⟩,rfl⟩:=e;simp[hd,q,lW J,hsz,h1,h2];rename_i m e' id ver i j hd;split at e;case h_2=>simp at e
 rename_i te bv bx q J;simp only[z6,zb,zf,zl]at e;obtain⟨⟨rfl,h1,h2⟩,rfl⟩:=e;simp[hd,q,lW J,h1,h2];rename_i m e' sz xs i j hd;split at e;case h_2=>simp at e
 rename_i te q;simp only[z6,zb,zf,zl]at e;obtain⟨⟨h1,h2⟩,rfl⟩:=e;simp[hd,q,h1,h2];simp at e
def iI(P:Program)(H:List aC)(t:TypeId)(x:AV)(f:Nat):Option (Bool×AV):=match x with|.own id ver i j=>(match bN P t with|some ti=>(match ti.d with|.struct fs=>(match fs[f]? with|some fd=>(match bN P fd.type with|some tf=>(if tf.sz=0 then none else match ij H id ver with|some (bv,_)=>some (bv,.own id ver i (j+fd.offset))|none=>none)|none=>none)|none=>none)|_=>none)|none=>none)|x=>match qJ P H t x f with|some r=>some (true,r)|none=>none
def xyQ{t:TypeId}{r:AV}{f:Nat}(e:iI P H t x f=some (true,r)):qJ P H t x f=some r:=by
 unfold iI at e;split at e;rename_i id ver i j;unfold qJ;split at e;case h_2=>simp at e
 rename_i ti O;simp only[O];split at e;case h_2=>simp at e
 rename_i fs hd;simp only[hd];split at e;case h_2=>simp at e
 rename_i fd Q;simp only[Q];split at e;case h_2=>simp at e
 rename_i tf q;simp only[q];split at e;simp at e;rename_i hsz;rw[if_neg hsz];split at e;case h_2=>simp at e
 rename_i bv bx J;cases e;simp only[lW J];split at e;rename_i r' hr;simp only[z6,zb,true_and]at e;rw[hr,e];simp at e
def nE(P:Program)(t:TypeId)(x ix:AV):Option (Bool×AV):=match bN P t,ix with|some ti,.int _ n=>(match ti.d,x with|.string,.str s=>some (decide (0<=n)&&decide (n<(s.length:Int)),.int .u8 ((s.getD n.toNat 0).toNat))|.array m e,.agg cs=>(match fS P t x ix with|some r=>some (true,r)|none=>none)|_,_=>none)|_,_=>none
theorem xDE{t:TypeId}{ix r:AV}(e:nE P t x ix=some (true,r)):fS P t x ix=some r:=by unfold nE fS at *;grind
def wD(P:Program)(H:List aC)(t:TypeId)(x:AV):Option (Bool×AV):=match bN P t with|some ti=>(match ti.d,x with|.string,.str s=>some (true,.int .i64 s.length)|.slice _,.list _ xs=>some (true,.int .i64 xs.length)|.slice _,.nils=>some (true,.int .i64 0)|.slice _,.osl id ver _ len=>(match ij H id ver with|some (bv,_)=>some (bv,.int .i64 len)|none=>none)|_,_=>none)|none=>none
def xHz{t:TypeId}{r:AV}(e:wD P H t x=some (true,r)):gJ P H t x=some r:=by
 unfold wD at e;unfold gJ;split at e;case h_2=>simp at e
 rename_i ti J;simp only[J];split at e;rename_i s hd;simp only[z6,zb,true_and]at e;simp only[hd,e];rename_i s xs hd;simp only[z6,zb,true_and]at e;simp only[hd,e];rename_i hd;simp only[z6,zb,true_and]at e;simp only[hd,e];rename_i id ver off len hd;split at e;case h_2=>simp at e
 rename_i bv bx q;cases e;simp only[hd,lW q];simp at e
def qr(P:Program)(nid:Nat)(t:TypeId)(l c:AV):Option (Bool×AV×Option aC):=match bN P t,l,c with|some ti,.int _ l,.int _ c=>(match ti.d with|.slice e=>(match bN P e with|some te=>if te.zero.okElem te.sz then some (decide (0<=l)&&(decide (l<=c)&&(decide ((te.bytes:Int)*c<=281474976710656)&&decide (c<=4611686018427387904))),.osl nid 0 0 l.toNat,some ⟨0,te.sz,e,List.replicate l.toNat te.zero,false,te.zero.pure⟩)else none|none=>none)|_=>none)|_,_,_=>none
variable {nid:Nat}
theorem xFI{t:TypeId}{l c:AV}{r:AV×Option aC}(e:qr P nid t l c=some (true,r)):iX P nid t l c=some r:=by unfold qr iX at *;grind
def sr(P:Program)(ls:TypeId->Bool)(ρ:Operand->AV)(H:List aC)(nid:Nat)(op:Op):Option (Bool×AV×Option aC):=match op with|.load t a=>(match bN P t with|some ti=>(match jV P ls t H ti (ρ a)with|some (b,x)=>some (b,x,none)|none=>none)|none=>none)|.nilCheck x=>(match ρ x with|.own id ver i j=>(match ij H id ver with|some (b,_)=>some (b,.own id ver i j,none)|none=>none)|.eptr sz xs i j=>some (true,.eptr sz xs i j,none)|.func f cs=>(match Nat.beq f vpF with|true=>none|false=>some (true,.func f cs,none))|_=>none)|.binOp op t x y _=>(match wm P op t (ρ x) (ρ y)with|some (b,r)=>some (b,r,none)|none=>none)|.makeSlice t l c=>qr P nid t (ρ l) (ρ c)|.slice t x lo hi mx=>(match mx with|none=>(match nK P H t (ρ x) (lo.map ρ) (hi.map ρ)with|some (b,r)=>some (b,r,none)|none=>none)|some _=>none)|.fieldAddr t x f=>(match iI P H t (ρ x) f with|some (b,r)=>some (b,r,none)|none=>none)|.indexAddr t x ix=>(match iJ P H t (ρ x) (ρ ix)with|some (b,r)=>some (b,r,none)|none=>none)|.index t x ix=>(match nE P t (ρ x) (ρ ix)with|some (b,r)=>some (b,r,none)|none=>none)|.call c=>(match c.callee with|.builtin b=>(match b with|.len=>(match c.argTypes.toList,c.args.toList.map ρ with|t::_,[x]=>(match wD P H t x with|some (b,r)=>some (b,r,none)|none=>none)|_,_=>none)|b=>match e8 P ρ H nid (.call c)with|some (x,nb)=>some (true,x,nb)|none=>none)|_=>none)|op=>match e8 P ρ H nid op with|some (x,nb)=>some (true,x,nb)|none=>none
variable {op:Op}{ρ:Operand->AV}
def UH{ls:TypeId->Bool}{r:AV×Option aC}(e:sr P ls ρ H nid op=some (true,r)):e8 P ρ H nid op=some r:=by
 unfold sr at e;split at e;rename_i t a;split at e;case h_2=>simp at e
 rename_i ti q;split at e;case h_2=>simp at e
 rename_i b x hx;cases e;simp only[e8,q,xvo hx];rename_i x;split at e;rename_i id ver i j hx;split at e;case h_2=>simp at e
 rename_i b bx hb;cases e;simp only[e8,hx,lW hb];rename_i hx;simp only[z6,zb,true_and]at e;simp only[e8,hx,e];rename_i hx;split at e;simp at e;rename_i J;simp only[z6,zb,true_and]at e;simp only[e8,hx,J,e];simp at e;split at e;case h_2=>simp at e
 rename_i b x hx;cases e;simp only[e8,xGN hx];simp only[e8];exact xFI e;split at e;case h_2=>simp at e
 split at e;case h_2=>simp at e
 rename_i b x hx;cases e;simp only[e8,xDU hx];split at e;case h_2=>simp at e
 rename_i b x hx;cases e;simp only[e8,xyQ hx];split at e;case h_2=>simp at e
 rename_i b x hx;cases e;simp only[e8,xyT hx];split at e;case h_2=>simp at e
 rename_i b x hx;cases e;simp only[e8,xDE hx];rename_i c;split at e;case h_2=>simp at e
 rename_i b hc;split at e;split at e;case h_2=>simp at e
 rename_i t ts x h1 h2;split at e;case h_2=>simp at e
 rename_i b y hx;cases e;simp only[e8,hc,h1,h2,xHz hx];split at e;case h_2=>simp at e
 rename_i x nb hx;simp only[z6,zb,true_and]at e;rw[hx,e];split at e;case h_2=>simp at e
 rename_i x nb hx;simp only[z6,zb,true_and]at e;rw[hx,e]
def nz(H:List aC)(sz:Nat):AV->Option (Bool×List AV×Bool)|.nils=>some (true,[],true)|.list sz' xs=>if sz'=sz then some (true,xs,true)else none|.osl id ver off len=>(match ij H id ver with|some (bv,bx)=>if bx.sz=sz/\bW bx.ty=false then some (bv&&decide (off+len<=bx.xs.length),(bx.xs.drop off).take len,bx.pm)else none|none=>none)|_=>none
def xDz{ys:List AV×Bool}(e:nz H sz x=some (true,ys)):sR H sz x=some ys:=by
 unfold nz at e;unfold sR;split at e;simp only[z6,zb,true_and]at e;simp only[e];split at e;rename_i h;simp only[z6,zb,true_and]at e;simp only[h,if_true,e];simp at e;split at e;case h_2=>simp at e
 rename_i bv bx hb;split at e;case isFalse=>simp at e
 rename_i hs;simp only[z6,zb,zf,zl]at e;obtain⟨⟨rfl,h1⟩,rfl⟩:=e;simp[lW hb,hs.1,hs.2,h1];simp at e
def M.byteAVs(s:List UInt8):List AV:=s.map λ(u:UInt8)=>.int .u8 u.toNat
def qw(P:Program)(H:List aC)(t tt e:TypeId)(sz:Nat)(x:AV):Option (Bool×List AV×Bool):=
 if t=tt then nz H sz x else
  match bN P tt,bN P e,x with
  |some tj,some te,.str s=>match tj.d,te.d with
   |.string,.int .u8=>if te.sz=1 then some (true,M.byteAVs s,true)else none
   |_,_=>none
  |_,_,_=>none
def jU(P:Program)(H:List aC)(t tt:TypeId)(s x:AV):Option (Bool×AV×List aC):=match bN P t with|some ti=>(match ti.d with|.slice e=>(match bN P e with|some te=>(if 0<te.sz/\te.zero.okElem te.sz then match qw P H t tt e te.sz x with|some (by',ys,pm)=>(match s with|.nils=>some (by'&&(decide (ys.length*te.bytes<=140737488355328)&&decide (ys.length<=f7)),.osl H.length 0 0 ys.length,H++[⟨0,te.sz,e,ys,false,pm⟩])|.osl (.b id) ver off len=>(match ij H id ver with|some (bv,bx)=>if bx.frz=false/\bx.sz=te.sz/\bx.ty=e then some (by'&&(bv&&((off==0)&&((len==bx.xs.length)&&(decide ((len+ys.length)*te.bytes<=140737488355328)&&decide (len+ys.length<=f7))))),.osl id (ver+1) 0 (len+ys.length),H.set id ⟨ver+1,te.sz,e,bx.xs++ys,false,bx.pm&&pm⟩)else none|none=>none)|_=>none)|none=>none else none)|none=>none)|_=>none)|none=>none
def KU{t tt e:TypeId}{r:List AV×Bool}(h:qw P H t tt e sz x=some (true,r)):gb P H t tt e sz x=some r:=by
 unfold qw at h;unfold gb;split at h;rename_i q;rw[if_pos q];exact xDz h;rename_i q;rw[if_neg q];split at h;case h_2=>simp at h
 rename_i tj te s h1 h2;split at h;case h_2=>simp at h
 rename_i h3 h4;split at h;case isFalse=>simp at h
 rename_i h5;simp only[z6,zb,true_and,M.byteAVs]at h;simp only[h1,h2,h3,h4,h5,if_true,h]
variable {s:AV}
def xu8{t tt:TypeId}{r:AV×List aC}(e:jU P H t tt s x=some (true,r)):y8 P H t tt s x=some r:=by
 unfold jU at e;unfold y8;split at e;case h_2=>simp at e
 rename_i ti J;simp only[J];split at e;case h_2=>simp at e
 rename_i e' hd;simp only[hd];split at e;case h_2=>simp at e
 rename_i te q;simp only[q];split at e;case isFalse=>simp at e
 rename_i hz;split at e;case h_2=>simp at e
 rename_i b ys pm hy;split at e;simp only[z6,zb,zf,zl]at e;obtain⟨⟨rfl,h1,h2⟩,rfl⟩:=e;simp only[KU hy,jx];rw[if_pos ⟨hz.1,h1,h2,hz.2⟩];rename_i id ver off len;split at e;case h_2=>simp at e
 rename_i bv bx hb;split at e;case isFalse=>simp at e
 rename_i hf;simp only[z6,zb,zf,zl,beq_iff_eq]at e;obtain⟨⟨rfl,rfl,h1,h2,h3,h4⟩,rfl⟩:=e;simp only[KU hy,jx,lW hb];rw[if_pos ⟨h1,h2,hf.1,hf.2.1,hf.2.2,hz.1,h3,h4,hz.2⟩];simp at e
def nL(P:Program)(H:List aC)(t:TypeId)(a v:AV):Option (Bool×List aC):=match bN P t,a with|some ti,.own (.b id) ver i j=>(match ij H id ver with|some (bv,bx)=>if bx.frz=false/\v.okElem ti.sz/\j+ti.sz<=bx.sz/\bW bx.ty=false then some (bv&&decide (i<bx.xs.length),H.set id ⟨ver,bx.sz,bx.ty,bx.xs.set i (putCells (bx.xs.getD i .top) j ti.sz bx.sz v),false,bx.pm&&v.pure⟩)else none|none=>none)|_,_=>none
variable {v:AV}
def xD0{t:TypeId}{r:List aC}(e:nL P H t a v=some (true,r)):gK P H t a v=some r:=by
 unfold nL at e;unfold gK;split at e;case h_2=>simp at e
 rename_i ti id ver i j q;simp only[q];split at e;case h_2=>simp at e
 rename_i bv bx hb;split at e;case isFalse=>simp at e
 rename_i hc;simp only[z6,zb,zf,zl]at e;obtain⟨⟨rfl,h1⟩,rfl⟩:=e;simp only[lW hb,Gt h1];rw[if_pos hc]
def y7(x:AV)(n:Nat):Bool:=match x with|.int _ l=>decide (l.toNat<n)|_=>false
def nu(P:Program)(H:List aC)(t:TypeId)(a v:AV):Option (Bool×List aC):=match bN P t,a,v with|some ti,.own (.b n) ver i j,.osl (.b id) ver2 off len=>(match H[n]?,H[id]? with|some bx,some b2=>if ti.sz=1/\bx.frz=false/\de bx.ty j/\bx.pm/\j<bx.sz/\b2.frz=false/\b2.pm/\bW b2.ty=false/\b2.ty=bM bx.ty/\dD bx.ty=false then some ((bx.ver==ver)&&((b2.ver==ver2)&&(decide (i<bx.xs.length)&&(((bx.xs.getD i .top).cells.length==bx.sz)&&((off==0)&&((len==b2.xs.length)&&y7 ((bx.xs.getD i .top).cells.getD j .top) len))))),(H.set id ⟨ver2+1,b2.sz,b2.ty,[],false,true⟩).set n (iR bx ver i j (.list b2.sz b2.xs)))else none|_,_=>none)|_,_,_=>none
def xDq{t:TypeId}{r:List aC}(e:nu P H t a v=some (true,r)):gI P H t a v=some r:=by
 unfold nu at e;unfold gI;split at e;case h_2=>simp at e
 rename_i ti n ver i j id q off len J;split at e;case h_2=>simp at e
 rename_i bx b2 hb O;split at e;case isFalse=>simp at e
 rename_i hc;simp only[z6,zb,zf,zl,beq_iff_eq]at e;obtain⟨⟨h1,h2,h3,h4,h5,h6,h7⟩,rfl⟩:=e;have g1:dW H (.b n) ver=some bx:=by unfold dW;simp only[getB,hb];exact if_pos ⟨h1,hc.2.2.2.2.2.2.2.2.2⟩
 have g2:dW H (.b id) q=some b2:=by unfold dW;simp only[getB,O];exact if_pos ⟨h2,kG hc.2.2.2.2.2.2.2.1⟩
 have g3:∃l0,gc ((bx.xs.getD i .top).cells.getD j .top)=some l0/\l0<len:=by unfold y7 at h7;split at h7;rename_i kk l hl;rw[hl];exact⟨_,rfl,by simpa using h7⟩;simp at h7
 obtain⟨l0,g3,g4⟩:=g3;simp only[J,g1,g2,g3];rw[if_pos ⟨hc.1,hc.2.1,hc.2.2.1,hc.2.2.2.1,hc.2.2.2.2.1,h3,h4,hc.2.2.2.2.2.1,hc.2.2.2.2.2.2.1,hc.2.2.2.2.2.2.2.1,hc.2.2.2.2.2.2.2.2.1,h5,h6,g4⟩]
def p8(P:Program)(H:List aC)(t tt:TypeId)(s x:AV):Option (Bool×AV×List aC):=match bN P t,s with|some ti,.osl (.b n) ver off len=>(match ti.d with|.slice e=>(match bN P e,H[n]? with|some te,some bx=>(match qw P H t tt e te.sz x with|some (by',ys,pm)=>if bx.frz=false/\bx.sz=te.sz/\bW bx.ty/\gA bx.ty=e/\bx.pm/\pm/\jP bx.ty<te.sz/\0<te.sz/\te.zero.okElem te.sz/\0<ys.length/\ys.all (λ y=>nG (y.cells.getD (jP bx.ty) .top))/\dD bx.ty=false then some (by'&&((bx.ver==ver)&&((off==0)&&((len==bx.xs.length)&&(decide ((len+ys.length)*te.bytes<=140737488355328)&&decide (len+ys.length<=f7))))),.osl (.b n) (ver+1) 0 (len+ys.length),H.set n ⟨ver+1,te.sz,bx.ty,bx.xs++ys.map (newRow bx.ty te.sz),false,true⟩)else none|none=>none)|_,_=>none)|_=>none)|_,_=>none
def xFe{t tt:TypeId}{r:AV×List aC}(h:p8 P H t tt s x=some (true,r)):iV P H t tt s x=some r:=by
 unfold p8 at h;unfold iV;split at h;case h_2=>simp at h
 rename_i ti n ver off len W;split at h;case h_2=>simp at h
 rename_i e hd;split at h;case h_2=>simp at h
 rename_i te bx O hb;split at h;case h_2=>simp at h
 rename_i Y ys pm Q;split at h;case isFalse=>simp at h
 rename_i hc;simp only[z6,zb,zf,zl,beq_iff_eq]at h;obtain⟨⟨rfl,h1,h2,h3,h4,h5⟩,rfl⟩:=h;obtain⟨c1,c2,c3,c4,c5,c6,c7,c8,c9,V,J,q⟩:=hc;have g1:dW H (.b n) ver=some bx:=by unfold dW;simp only[getB,hb];exact if_pos ⟨h1,q⟩
 simp only[W,hd,O,g1,KU Q];rw[if_pos ⟨h2,h3,c1,c2,c3,c4,c5,c6,c7,c8,h4,h5,c9,V,J⟩]
def qE(P:Program)(H:List aC)(t tt:TypeId)(s x:AV):Option (Bool×AV×List aC):=match s with
 |.osl (.r n i j) ver off len=>match H[n]? with
  |some bx=>
   if de bx.ty j/\bx.pm/\j<bx.sz then
    match jU P (H.set n (iR bx bx.ver i j (.int .i64 ((bx.xs.getD i .top).cells.getD j .top).toList.length))++[⟨0,fF bx.ty,bM bx.ty,((bx.xs.getD i .top).cells.getD j .top).toList,bx.frz,true⟩]) t tt (.osl (.b H.length) 0 0 len) x with
    | some (b,r)=>some (decide (i<bx.xs.length)&&(jW (fF bx.ty) ((bx.xs.getD i .top).cells.getD j .top)&&(((bx.xs.getD i .top).cells.length==bx.sz)&&((ver==2*((bx.xs.getD i .top).cells.getD j .top).toList.length)&&((off==0)&&((len==((bx.xs.getD i .top).cells.getD j .top).toList.length)&&b))))),r)
    | none=>none else none
  |none=>none
 |_=>none
def xGb{t tt:TypeId}{r:AV×List aC}(h:qE P H t tt s x=some (true,r)):i7 P H t tt s x=some r:=by
 unfold qE at h;unfold i7;split at h;case h_2=>simp at h
 rename_i n i j ver off len;split at h;case h_2=>simp at h
 rename_i bx hb;split at h;case isFalse=>simp at h
 rename_i hc;split at h;case h_2=>simp at h
 rename_i b r' ha;simp only[z6,zb,zf,zl,beq_iff_eq]at h;obtain⟨⟨h1,h2,h3,h4,h5,h6,rfl⟩,rfl⟩:=h;obtain⟨ys,hy⟩:=vl h2;rw[hy]at ha h4 h6;simp only[AV.toList]at ha h4 h6;simp only[hb,hy];rw[if_pos ⟨hc.1,hc.2.1,hc.2.2,h1,h3,h4,h5,h6⟩];exact xu8 ha
def qp(P:Program)(H:List aC)(t:TypeId)(m k:AV)(c:Bool):Option (Bool×AV):=match m,k,P.underlying t with
 |.own (.b n) ver _ _,.str s,some (.map kt et)=>match P.underlying kt,bN P et,H[n]?,fX P false 8 et with
  |some .string,some te,some bx,[z]=>
   if dD bx.ty/\de bx.ty 0=false/\de bx.ty 1=false/\bx.sz=2/\bx.pm then
    some ((bx.ver==ver)&&(decide (s.length<=f7)&&dw z (eP te.zero bx.xs s)),match c with
     | true=>.tuple [oV z (eP te.zero bx.xs s),.bool (iO bx.xs s)]
     | false=>oV z (eP te.zero bx.xs s)) else none
  |_,_,_,_=>none
 |_,_,_=>none
variable {c:Bool}{k m:AV}
def xFG{t:TypeId}{r:AV}(h:qp P H t m k c=some (true,r)):dr P H t m k c=some r:=by
 unfold qp at h;unfold dr;split at h;case h_2=>simp at h
 rename_i n ver i j s kt et q;simp only[q];split at h;case h_2=>simp at h
 rename_i te bx z O J hb hz;split at h;case isFalse=>simp at h
 rename_i hc;simp only[z6,zb,zf,zl,beq_iff_eq]at h;obtain⟨⟨h1,h2,h3⟩,rfl⟩:=h;have g:bS H n ver=some bx:=by unfold bS;simp only[hb];exact if_pos ⟨h1,hc⟩
 simp only[O,J,g,Ly h3];exact if_pos h2
def qu(P:Program)(H:List aC)(t:TypeId)(m k v:AV):Option (Bool×List aC):=match m,k,P.underlying t with|.own (.b n) ver _ _,.str s,some (.map kt _)=>(match P.underlying kt,H[n]? with|some .string,some bx=>if dD bx.ty/\de bx.ty 0=false/\de bx.ty 1=false/\bx.sz=2/\bx.pm/\bx.frz=false/\v.one/\v.pure then some ((bx.ver==ver)&&(decide (bx.xs.length<f7)&&decide (s.length<=f7)),H.set n ⟨ver,2,bx.ty,dT bx.xs s v,false,true⟩)else none|_,_=>none)|_,_,_=>none
def xFN{t:TypeId}{r:List aC}(h:qu P H t m k v=some (true,r)):fz P H t m k v=some r:=by
 unfold qu at h;unfold fz;split at h;case h_2=>simp at h
 rename_i n ver i j s kt et q;simp only[q];split at h;case h_2=>simp at h
 rename_i bx J hb;split at h;case isFalse=>simp at h
 rename_i hc;obtain⟨c1,c2,c3,c4,c5,c6,c7,c8⟩:=hc;simp only[z6,zb,zf,zl,beq_iff_eq]at h;obtain⟨⟨h1,h2,h3⟩,rfl⟩:=h;have g:bS H n ver=some bx:=by unfold bS;simp only[hb];exact if_pos ⟨h1,c1,c2,c3,c4,c5⟩
 simp only[J,g];exact if_pos ⟨c6,c7,c8,h2,h3⟩
def jy(P:Program)(H:List aC)(t:TypeId)(m k:AV)(c:Bool):Option (Bool×AV):=match m,k,P.underlying t with
 |.own (.b n) ver _ _,.str s,some (.map kt et)=>match P.underlying kt,P.underlying et,bN P et,H[n]? with
  |some .string,some (.slice e2),some te,some bx=>match te.zero,bN P e2 with
   |.nils,some te2=>
    if dD bx.ty/\de bx.ty 0=false/\de bx.ty 1=false/\bx.sz=2/\bx.pm then
     some ((bx.ver==ver)&&(decide (s.length<=f7)&&(!iO bx.xs s || jW te2.sz (eP .nils bx.xs s))),match c with
      | true=>.tuple [.list te2.sz (dP bx.xs s),.bool (iO bx.xs s)]
      | false=>.list te2.sz (dP bx.xs s)) else none
   |_,_=>none
  |_,_,_,_=>none
 |_,_,_=>none
theorem xwp{t:TypeId}{r:AV}(h:jy P H t m k c=some (true,r)):bH P H t m k c=some r:=by unfold jy bH bS at *;grind
def xDF{t:TypeId}(h:jy P H t m k c=none):bH P H t m k c=none:=by cases hl:bH P H t m k c with|none=>rfl|some r=>
 exfalso;unfold bH at hl;split at hl;case h_2=>simp at hl
 rename_i n ver i j s kt et J;split at hl;case h_2=>simp at hl
 rename_i e2 te bx V W Q O;split at hl;case h_2=>simp at hl
 rename_i Y hz q;obtain⟨b1,b2,b3⟩:=FF O;unfold jy at h;simp only[J,V,W,Q,b1,hz,q,b3]at h;simp at h
def nH (P:Program) (H:List aC) (t:TypeId) (m k:AV) (c:Bool):Option (Bool×Bool×Bool×AV×AV):=match m,k,P.underlying t with
 | .own (.b n) ver _ _,.str s,some (.map kt et)=>match P.underlying kt,bN P et,H[n]? with
  | some .string,some te,some bx=>if dD bx.ty/\de bx.ty 0=false/\de bx.ty 1/\bx.sz=2/\bx.pm then
   some ((bx.ver==ver)&&decide (s.length<=f7),iO bx.xs s,jW (fF bx.ty) ((bx.xs.getD (aN bx.xs s) .top).cells.getD 1 .top),
    match c with
    | true=>.tuple [.osl (.r n (aN bx.xs s) 1) (2*((bx.xs.getD (aN bx.xs s) .top).cells.getD 1 .top).toList.length) 0 ((bx.xs.getD (aN bx.xs s) .top).cells.getD 1 .top).toList.length,.bool true]
    | false=>.osl (.r n (aN bx.xs s) 1) (2*((bx.xs.getD (aN bx.xs s) .top).cells.getD 1 .top).toList.length) 0 ((bx.xs.getD (aN bx.xs s) .top).cells.getD 1 .top).toList.length,
    match c with
    | true=>.tuple [te.zero,.bool false]
    | false=>te.zero) else none
  | _,_,_=>none
 | _,_,_=>none
variable {b1:Bool}
def xwq{t:TypeId}{Q:Bool}(h:nH P H t m k c=some (true,Q,b1,x,y)):bH P H t m k c=none/\dr P H t m k c=none/\((Q->b1->cD P H t m k c=some x)/\(Q=false->cD P H t m k c=some y)):=by
 unfold nH at h;split at h;case h_2=>simp at h
 rename_i n ver i j s kt et q;split at h;case h_2=>simp at h
 rename_i te bx O J hb;split at h;case isFalse=>simp at h
 rename_i hc;obtain⟨c1,c2,c3,c4,c5⟩:=hc;simp only[z6,zb,zf,zl,beq_iff_eq]at h;obtain⟨⟨h1,h2⟩,rfl,rfl,rfl,rfl⟩:=h;have g:dI H n ver=some bx:=by unfold dI;simp only[hb];exact if_pos ⟨h1,c1,c2,c3,c4,c5⟩
 have g0:bS H n ver=none:=by unfold bS;simp only[hb];exact if_neg λ e=>by have:=e.2.2.2.1;rw[c3]at this;cases this
 refine⟨?_,?_,λ hh hr=>?_,λ hh=>?_⟩;cases hl:bH P H t (.own (.b n) ver i j) (.str s) c with|none=>rfl|some r=>obtain⟨n',V,i',j',bx',e,h'⟩:=xuE hl;simp only[AV.own.injEq,Id.b.injEq]at e;obtain⟨rfl,rfl,_,_⟩:=e;rw[g0]at h';cases h'
 unfold dr;simp only[q,O,J,g0];unfold cD;simp only[q,O,J,g];rw[if_pos h2];unfold iO at hh;cases hm:aP bx.xs s with|none=>rw[hm]at hh;cases hh|some i=>(have hp:aN bx.xs s=i:=by unfold aN;rw[hm]);rw[hp]at hr|-;obtain⟨ys,hy⟩:=vl hr;cases c<;>(dsimp only;rw[hy];rfl)
 unfold cD;simp only[q,O,J,g];rw[if_pos h2];unfold iO at hh;cases hm:aP bx.xs s with|some i=>rw[hm]at hh;cases hh|none=>cases c<;>rfl
def kW(P:Program)(ρ:Operand->AV)(H:List aC)(op:Op):Option (Bool×Bool×Bool×AV×AV):=match op with|.lookup t m k c=>nH P H t (ρ m) (ρ k) c|_=>none
variable {q:Bool}
def xFA(h:kW P ρ H op=some (true,q,b1,x,y)):(q->b1->nF P ρ H op=some (x,H))/\(q=false->nF P ρ H op=some (y,H)):=by unfold kW at h;split at h;(case h_2=>simp at h);rename_i t m k c;obtain⟨h9,h0,h1,h2⟩:=xwq h;exact⟨λ a b=>by simp only[nF,h9,h0,h1 a b],λ a=>by simp only[nF,h9,h0,h2 a]⟩
def xFB(h:kW P ρ H op=some (true,q,b1,x,y)):(q->b1->fU P ρ H nid op=some (x,none))/\(q=false->fU P ρ H nid op=some (y,none)):=by unfold kW at h;split at h;(case h_2=>simp at h);rename_i t m k c;obtain⟨h9,_,h1,h2⟩:=xwq h;exact⟨λ a b=>by simp only[fU,h9,h1 a b],λ a=>by simp only[fU,h9,h2 a]⟩
def qv(P:Program)(H:List aC)(t:TypeId)(m k v:AV):Option (Bool×List aC):=match m,k,v,P.underlying t with|.own (.b n) ver _ _,.str s,.osl (.b id) ver2 off len,some (.map kt _)=>(match P.underlying kt,H[n]?,H[id]? with|some .string,some bx,some b2=>if dD bx.ty/\de bx.ty 0=false/\de bx.ty 1/\bx.sz=2/\bx.pm/\bx.frz=false/\b2.frz=false/\b2.pm/\bW b2.ty=false/\b2.ty=bM bx.ty then some ((bx.ver==ver)&&((b2.ver==ver2)&&((off==0)&&((len==b2.xs.length)&&(decide (bx.xs.length<f7)&&(decide (s.length<=f7)&&gN bx.xs s len))))),(H.set id ⟨ver2+1,b2.sz,b2.ty,[],false,true⟩).set n ⟨ver,2,bx.ty,dT bx.xs s (.list b2.sz b2.xs),false,true⟩)else none|_,_,_=>none)|_,_,_,_=>none
def xFP{t:TypeId}{r:List aC}(h:qv P H t m k v=some (true,r)):fz P H t m k v=none/\iZ P H t m k v=some r:=by
 unfold qv at h;split at h;case h_2=>simp at h
 rename_i n ver i j s id O off len kt et q;split at h;case h_2=>simp at h
 rename_i bx b2 J hb V;split at h;case isFalse=>simp at h
 rename_i hc;obtain⟨c1,c2,c3,c4,c5,c6,c7,c8,c9,Q⟩:=hc;simp only[z6,zb,zf,zl,beq_iff_eq]at h;obtain⟨⟨h1,h2,h3,h4,h5,h6,h7⟩,rfl⟩:=h;have g:dI H n ver=some bx:=by unfold dI;simp only[hb];exact if_pos ⟨h1,c1,c2,c3,c4,c5⟩
 have g0:bS H n ver=none:=by unfold bS;simp only[hb];exact if_neg λ e=>by have:=e.2.2.2.1;rw[c3]at this;cases this
 have g2:dW H (.b id) O=some b2:=by unfold dW;simp only[getB,V];exact if_pos ⟨h2,kG c9⟩
 constructor;unfold fz;simp only[q,J,g0];unfold iZ;simp only[q,J,g,g2];exact if_pos ⟨c6,c7,c8,c9,Q,h3,h4,h5,h6,h7⟩
def sA(P:Program)(ρ:Operand->AV)(H:List aC)(op:Op):Option (Bool×AV×List aC):=match op with|.store t a v=>(match GP H (ρ a)with|true=>(match nu P H t (ρ a) (ρ v)with|some (b,H')=>some (b,.tuple [],H')|none=>none)|false=>match nL P H t (ρ a) (ρ v)with|some (b,H')=>some (b,.tuple [],H')|none=>none)|.call c=>(match c.callee with|.builtin b=>(match b,c.argTypes.toList,c.args.toList with|.append,[t,t'],[s,x]=>(match mD (ρ s)with|true=>qE P H t t' (ρ s) (ρ x)|false=>match GP H (ρ s)with|true=>p8 P H t t' (ρ s) (ρ x)|false=>jU P H t t' (ρ s) (ρ x))|_,_,_=>none)|_=>none)|.lookup t m k c=>(match jy P H t (ρ m) (ρ k) c with|some (b,r)=>some (b,r,H)|none=>match qp P H t (ρ m) (ρ k) c with|some (b,r)=>some (b,r,H)|none=>none)|.mapUpdate t m k v=>(match qu P H t (ρ m) (ρ k) (ρ v)with|some (b,H')=>some (b,.tuple [],H')|none=>match qv P H t (ρ m) (ρ k) (ρ v)with|some (b,H')=>some (b,.tuple [],H')|none=>none)|.makeMap t r=>(match r with|none=>(match iY P H t with|some r=>some (true,r)|none=>none)|some _=>none)|_=>none
def Ua{r:AV×List aC}(e:sA P ρ H op=some (true,r)):nF P ρ H op=some r:=by
 unfold sA at e;unfold nF;split at e;split at e;rename_i hk;split at e;case h_2=>simp at e
 rename_i b H' h;cases e;simp only[hk,xDq h];rename_i hk;split at e;case h_2=>simp at e
 rename_i b H' h;cases e;simp only[hk,xD0 h];rename_i c;split at e;case h_2=>simp at e
 rename_i b hb;simp only[hb];split at e;rename_i t t' s x h1 h2;simp only[h1,h2];split at e;rename_i hk;simp only[hk];exact xGb e;rename_i hk;simp only[hk];split at e;rename_i q;simp only[q];exact xFe e;rename_i q;simp only[q];exact xu8 e;simp at e;split at e;rename_i b r' h;cases e;simp only[xwp h];rename_i hl;split at e;case h_2=>simp at e
 rename_i b r' h;cases e;simp only[xDF hl,xFG h];split at e;rename_i b H' h;cases e;simp only[xFN h];split at e;case h_2=>simp at e
 rename_i b H' h;cases e;obtain⟨h0,h1⟩:=xFP h;simp only[h0,h1];split at e;split at e;case h_2=>simp at e
 rename_i r' h;simp only[z6,zb,true_and]at e;simp only[h,e];simp at e;simp at e
def qi(P:Program)(ρ:Operand->AV)(H:List aC)(nid:Nat)(op:Op):Option (Bool×AV×Option aC):=match op with|.buildSlice t len parts=>(match fU P ρ H nid (.buildSlice t len parts)with|some (x,nb)=>some (true,x,nb)|none=>none)|.call c=>(match c.callee with|.builtin b=>(match b,c.argTypes.toList,c.args.toList with|.append,[t,t'],[s,x]=>(match ρ s with|.empt=>(match bN P t with|some ti=>(match ti.d with|.slice e=>(match bN P e with|some te=>(match qw P H t t' e te.sz (ρ x)with|some (by',ys,pm)=>if 0<te.sz/\te.zero.okElem te.sz then some (by'&&(decide (ys.length*te.bytes<=140737488355328)&&decide (ys.length<=f7)),.osl nid 0 0 ys.length,some ⟨0,te.sz,e,ys,false,pm⟩)else none|none=>none)|none=>none)|_=>none)|none=>none)|_=>none)|_,_,_=>none)|_=>none)|.lookup t m k c=>(match jy P H t (ρ m) (ρ k) c with|some (b,r)=>some (b,r,none)|none=>none)|_=>none
def xFy{r:AV×Option aC}(h:qi P ρ H nid op=some (true,r)):fU P ρ H nid op=some r:=by
 unfold qi at h;split at h;split at h;case h_2=>simp at h
 rename_i x nb hx;simp only[z6,zb,true_and]at h;rw[hx,h];rename_i c;split at h;case h_2=>simp at h
 rename_i b hb;split at h;case h_2=>simp at h
 rename_i t t' s x h1 h2;split at h;case h_2=>simp at h
 rename_i hs;split at h;case h_2=>simp at h
 rename_i ti O;split at h;case h_2=>simp at h
 rename_i e hd;split at h;case h_2=>simp at h
 rename_i te q;split at h;case h_2=>simp at h
 rename_i Q ys pm J;split at h;case isFalse=>simp at h
 rename_i hc;simp only[z6,zb,zf,zl]at h;obtain⟨⟨rfl,g1,g2⟩,rfl⟩:=h;simp only[fU,hb,h1,h2,g9,hs,O,hd,q,KU J];exact if_pos ⟨hc.1,g1,g2,hc.2⟩;split at h;case h_2=>simp at h
 rename_i b r' hl;cases h;simp only[fU,xwp hl];simp at h
def qh(ρ:Operand->AV)(op:Op):Option (Bool×AV):=match op with|.box _ x=>(match (ρ x).cells.all AV.one with|true=>some ((ρ x).pure,.eptr (ρ x).cells.length [ρ x] 0 0)|false=>none)|_=>none
theorem xFw(h:qh ρ op=some (true,x)):fU P ρ H nid op=some (x,none):=by unfold qh fU at *;grind
def De(ls:TypeId->Bool)(op:Op):Bool:=match op with|.box e _=>ls (1000000+e)|_=>false
end Go.Sim
end
