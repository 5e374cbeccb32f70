/- Part 5 of the proof of the law. -/
import Derived.Test.YtodofdnlhoknhaaGreatDoorTC4
set_option linter.defProp false
set_option linter.unusedVariables false
set_option linter.unusedSimpArgs false
set_option linter.unnecessarySimpa false
noncomputable section
namespace Go.Sim
open Go.RowKit
section cps
variable{T:Type}
noncomputable def br(t:Bool)(a b:T):T:=match t with|true=>a|false=>b
mutual
def dc:AV->(AV->T)->T|.agg cs,K=>jN cs λ q=>K (.agg q)|.tuple cs,K=>jN cs λ q=>K (.tuple q)|.func f cs,K=>jN cs λ q=>K (.func f q)|.top,K=>K .top|.bool b,K=>K (.bool b)|.int k n,K=>K (.int k n)|.str s,K=>K (.str s)|.nils,K=>K .nils|.list sz xs,K=>K (.list sz xs)|.eptr sz xs i j,K=>K (.eptr sz xs i j)|.own id ver i j,K=>K (.own id ver i j)|.osl id ver off len,K=>K (.osl id ver off len)|.nilptr,K=>K .nilptr|.nilfn,K=>K .nilfn|.empt,K=>K .empt|.gptr g,K=>K (.gptr g)|.yld g,K=>K (.yld g)
def jN:List AV->(List AV->T)->T|[],K=>K []|x::xs,K=>dc x λ x'=>jN xs λ q=>K (x'::q)
end
mutual
def l6:∀(x:AV)(K:AV->T),dc x K=K x|.agg cs,K=>by simp only[dc];exact kF cs _|.tuple cs,K=>by simp only[dc];exact kF cs _|.func f cs,K=>by simp only[dc];exact kF cs _|.top,K=>rfl|.bool b,K=>rfl|.int k n,K=>rfl|.str s,K=>rfl|.nils,K=>rfl|.list sz xs,K=>rfl|.eptr sz xs i j,K=>rfl|.own id ver i j,K=>rfl|.osl id ver off len,K=>rfl|.nilptr,K=>rfl|.nilfn,K=>rfl|.empt,K=>rfl|.gptr g,K=>rfl|.yld g,K=>rfl
def kF:∀(xs:List AV)(K:List AV->T),jN xs K=K xs|[],K=>rfl|x::xs,K=>by simp only[jN];rw[l6 x];exact kF xs _
end
def nI:List AV->Nat->AV->(List AV->T)->T|[],_,_,K=>K []|_::xs,0,v,K=>K (v::xs)|x::xs,n+1,v,K=>nI xs n v λ l=>K (x::l)
def yx:∀(xs:List AV)(n:Nat)(v:AV)(K:List AV->T),nI xs n v K=K (xs.set n v)|[],_,_,K=>rfl|_::xs,0,v,K=>rfl|x::xs,n+1,v,K=>by simp only[nI];rw[yx xs n v];rfl
def fi(ts:List AV)(d:Option Tmp)(v:AV)(K:List AV->T):T:=match d with|some d=>nI ts d v K|none=>K ts
def l8(ts:List AV)(d:Option Tmp)(v:AV)(K:List AV->T):fi ts d v K=K (bB ts d v):=by cases d with|none=>rfl|some d=>exact yx ts d v K
def ny(b:Bool)(K:Bool->T):T:=match b with|true=>K true|false=>K false
def xzL(b:Bool)(K:Bool->T):ny b K=K b:=by cases b<;>rfl
def kB:List aC->(List aC->T)->T|[],K=>K []|⟨a,b,c,xs,f,p⟩::H,K=>ny p λ p'=>ny f λ f'=>kB H λ H'=>K (⟨a,b,c,xs,f',p'⟩::H')
def lO:∀(H:List aC)(K:List aC->T),kB H K=K H|[],K=>rfl|⟨a,b,c,xs,f,p⟩::H,K=>by simp only[kB];rw[xzL,xzL,lO H]
end cps
noncomputable def AV.toInt:AV->Int|.int _ n=>n|_=>0
def AV.toStr:AV->List UInt8|.str s=>s|_=>[]
def AV.toBool:AV->Bool|.bool b=>b|_=>false
inductive Sh where|any|int (k:IntKind)|str|bool|list (sz:Nat)
def cX:Sh->AV->Bool|.int k,.int k' _=>decide (k=k')|.int _,_=>false|.str,.str _=>true|.str,_=>false|.bool,.bool _=>true|.bool,_=>false|.list sz,.list sz' _=>Nat.beq sz sz'|.list _,_=>false|.any,_=>true
def oU(z:Sh)(x:AV):AV:=match z with|.int k=>.int k x.toInt|.str=>.str x.toStr|.bool=>.bool x.toBool|.list sz=>.list sz x.toList|.any=>x
variable {x:AV}
def Kz{z:Sh}(h:cX z x):oU z x=x:=by cases z<;>cases x<;>first|rfl|(simp[cX]at h;done)|(simp[cX]at h;subst h;rfl)
def ef:List Sh->List AV->Nat->Bool|[],_,_=>true|z::zs,cs,j=>cX z (cs.getD j .top)&&ef zs cs (j+1)
def qg:List Sh->List AV->Nat->List AV|[],_,_=>[]|z::zs,cs,j=>oU z (cs.getD j .top)::qg zs cs (j+1)
def U0:∀{zs:List Sh}{cs:List AV}{j:Nat},ef zs cs j->j+zs.length<=cs.length->qg zs cs j=(cs.drop j).take zs.length|[],cs,j,_,_=>by simp[qg]|z::zs,cs,j,h,hl=>by(simp only[ef,zf]at h;simp only[zF]at hl|-;have hj:j<cs.length:=Ω);rw[qg,Kz h.1,U0 h.2 Ω,List.drop_eq_getElem_cons hj,List.take_succ_cons];simp[z7,hj]
def fV(P:Program)(ls:Bool):Nat->TypeId->List Sh|0,_=>[]|n+1,t=>match P.underlying t with|some (.int k)=>[.int k]|some .string=>[.str]|some .bool=>[.bool]|some (.slice e)=>(match ls,bN P e with|true,some te=>[.list te.sz]|_,_=>[.any])|some (.struct fs)=>fs.toList.flatMap λ f=>fV P ls n f.type|some (.array m e)=>(List.replicate m (fV P ls n e)).flatten|_=>[.any]
def ii(H:List aC)(id:Id)(ver:Nat):Option (Bool×aC):=match id with|.b n=>(match H[n]? with|some bx=>(match dy bx.ty with|true=>none|false=>some (bx.ver==ver,bx))|none=>none)|.r n i j=>match H[n]? with|some bx=>(match db bx.ty j,bx.pm with|true,true=>some (decide (i<bx.xs.length)&&(jV (fE bx.ty) ((bx.xs.getD i .top).cells.getD j .top)&&(2*((bx.xs.getD i .top).cells.getD j .top).toList.length==ver)),⟨2*((bx.xs.getD i .top).cells.getD j .top).toList.length,fE bx.ty,bM bx.ty,((bx.xs.getD i .top).cells.getD j .top).toList,bx.frz,true⟩)|_,_=>none)|none=>none
variable {H:List aC}
def lQ{id:Id}{ver:Nat}{bx:aC}(h:ii H id ver=some (true,bx)):dT H id ver=some bx:=by
 unfold ii at h;unfold dT;split at h;split at h;rename_i b hb;split at h;simp at h;rename_i q;simp only[z6,zb,beq_iff_eq]at h;obtain⟨h1,rfl⟩:=h;simp only[getB,hb];exact if_pos ⟨h1,q⟩;simp at h;rename_i n i j;split at h;case h_2=>simp at h
 rename_i b hb;split at h;case h_2=>simp at h
 rename_i hs hp;simp only[z6,zb,zf,zl,beq_iff_eq]at h;obtain⟨⟨h0,h1,h2⟩,rfl⟩:=h;obtain⟨ys,hy⟩:=uZ h1;rw[hy]at h2|-;rw[oG hb (pL hs) hs hp h0,hy];simp only[AV.toList]at h2;simp only[iP,AV.toList];exact if_pos ⟨h2,kE (pd _)⟩
def n9(zs:List Sh)(ti:TI)(sz:Nat)(x:AV)(j:Nat):Option (Bool×AV):=
 if j+ti.sz<=sz/\zs.length=ti.sz then
  if ti.agg then some ((x.cells.length==sz)&&ef zs x.cells j,.agg (qg zs x.cells j))
  else match zs with
   |[z]=>some (cX z (x.cells.getD j .top),oU z (x.cells.getD j .top))
   |_=>none
 else none
variable {j sz:Nat}{ti:TI}{zs:List Sh}
def ZM{r:AV}(h:n9 zs ti sz x j=some (true,r)):eP ti sz x.cells j=some r:=by
 unfold n9 at h;unfold eP;split at h;case isFalse=>simp at h
 rename_i hj;obtain⟨hj,hz⟩:=hj;rw[if_pos hj];split at h;rename_i ha;rw[if_pos ha];simp only[z6,zb,zf,beq_iff_eq]at h;obtain⟨⟨h1,h2⟩,rfl⟩:=h;rw[U0 h2 Ω,hz];rename_i ha;rw[if_neg ha];split at h;case h_2=>simp at h
 rename_i z;rw[if_pos (by simpa using hz.symm)];simp only[z6,zb]at h;rw[<-h.2,Kz h.1]
variable {i:Nat}
def Fy{xs:List AV}(h:i<xs.length):xs[i]?=some (xs.getD i .top):=by simp[z7,h]
def qo(zs:List Sh)(ti:TI)(n i j:Nat)(bx:aC):Option (Bool×AV):=
 if j<bx.sz/\ti.sz=1/\ti.agg=false then
  match db bx.ty j with
  |true=>some (jV (fE bx.ty) ((bx.xs.getD i .top).cells.getD j .top)&&((bx.xs.getD i .top).cells.length==bx.sz),.osl (.r n i j) (2*((bx.xs.getD i .top).cells.getD j .top).toList.length) 0 ((bx.xs.getD i .top).cells.getD j .top).toList.length)
  |false=>match zs with
   |[z]=>some (cX z ((bx.xs.getD i .top).cells.getD j .top)&&((bx.xs.getD i .top).cells.length==bx.sz),oU z ((bx.xs.getD i .top).cells.getD j .top))
   |_=>none
 else none
variable {n:Nat}
def xEF{bx:aC}{r:AV}(h:qo zs ti n i j bx=some (true,r)):eP ti bx.sz (jE n i bx.ty (bx.xs.getD i .top).cells) j=some r:=by
 unfold qo at h;split at h;case isFalse=>simp at h
 rename_i hc;obtain⟨hj,h1,h2⟩:=hc;unfold eP;rw[if_pos Ω,if_neg (by rw[h2];simp),if_pos h1];split at h;rename_i hs;simp only[z6,zb,zf,beq_iff_eq]at h;obtain⟨⟨h3,h4⟩,rfl⟩:=h;obtain⟨ys,hy⟩:=uZ h3;rw[RF _ _ _ _ _ Ω];unfold fw;rw[hs,hy];rfl;rename_i hs;split at h;case h_2=>simp at h
 rename_i z;simp only[z6,zb,zf,beq_iff_eq]at h;obtain⟨⟨h3,h4⟩,rfl⟩:=h;rw[RF _ _ _ _ _ Ω,Kz h3];unfold fw;rw[hs]
def jU(P:Program)(ls:TypeId->Bool)(t:TypeId)(H:List aC)(ti:TI):AV->Option (Bool×AV)|.eptr sz xs i j=>(match n9 (fV P (!ls (7000000+t)) 8 t) ti sz (xs.getD i .top) j with|some (b,r)=>some (decide (i<xs.length)&&b,r)|none=>none)|.own id ver i j=>(match ii H id ver with|some (bv,bx)=>(match bW bx.ty with|true=>(match qo (fV P (ls (gz bx.ty)) 8 t) ti id.base i j bx with|some (b,r)=>some (bv&&(decide (i<bx.xs.length)&&b),r)|none=>none)|false=>match n9 (fV P (ls bx.ty) 8 t) ti bx.sz (bx.xs.getD i .top) j with|some (b,r)=>some (bv&&(decide (i<bx.xs.length)&&b),r)|none=>none)|none=>none)|.func f cs=>(match Nat.beq f vpF,cs with|true,[x]=>if ti.sz=1/\ti.agg=false then some (true,x)else none|_,_=>none)|_=>none
variable {P:Program}{a:AV}
def YL{ls:TypeId->Bool}{t:TypeId}{r:AV}(h:jU P ls t H ti a=some (true,r)):o5 H ti a=some r:=by
 unfold jU at h;unfold o5;split at h;rename_i sz xs i j;split at h;case h_2=>simp at h
 rename_i b r' hl;simp only[z6,zb,zf,zl]at h;obtain⟨⟨h1,rfl⟩,rfl⟩:=h;simp only[Fy h1];exact ZM hl;rename_i id ver i j;split at h;case h_2=>simp at h
 rename_i bv bx hb;split at h;split at h;case h_2=>simp at h
 rename_i b r' hl;simp only[z6,zb,zf,zl]at h;obtain⟨⟨rfl,h1,rfl⟩,rfl⟩:=h;simp only[lQ hb,Fy h1];exact xEF hl;rename_i J;split at h;case h_2=>simp at h
 rename_i b r' hl;simp only[z6,zb,zf,zl]at h;obtain⟨⟨rfl,h1,rfl⟩,rfl⟩:=h;simp only[lQ hb,Fy h1];have hv:jE id.base i bx.ty (bx.xs.getD i .top).cells=(bx.xs.getD i .top).cells:=by unfold jE;rw[J]
 rw[hv];exact ZM hl;split at h;rename_i x' q;split at h;case isFalse=>simp at h
 rename_i hc;simp only[z6,zb,true_and]at h;simp only[q];rw[if_pos hc,h];simp at h;simp at h
def vV(P:Program)(op:BinOp)(t:TypeId)(x y:AV):Option (Bool×AV):=match op with|.quo=>(match x,y with|.int k a,.int k' b=>if k=k' then some (!(b==0),.int k (k.wrap (a.tdiv b)))else none|_,_=>none)|.rem=>(match x,y with|.int k a,.int k' b=>if k=k' then some (!(b==0),.int k (a.tmod b))else none|_,_=>none)|.add=>(match x,y with|.str a,.str b=>some (decide (a.length+b.length<=gb),.str (a++b))|_,_=>match iB P .add t x y with|some r=>some (true,r)|none=>none)|op=>match iB P op t x y with|some r=>some (true,r)|none=>none
variable {y:AV}
theorem xFM{op:BinOp}{t:TypeId}{r:AV}(h:vV P op t x y=some (true,r)):iB P op t x y=some r:=by unfold vV iB n8 lw lx at *;grind
def nY(x:Option AV)(q len:Nat):Option (Bool×Nat):=match x with|none=>some (true,q)|some (.int _ n)=>some (decide (0<=n)&&decide (n<=(len:Int)),n.toNat)|some _=>none
theorem ZO{x:Option AV}{d len:Nat}(h:nY x d len=some (true,n)):me x d len=some n:=by unfold nY me at *;grind
def g9(lo hi:Option AV)(len:Nat):Option (Bool×Nat×Nat):=match nY hi len len with|none=>none|some (b1,h)=>match nY lo 0 h with|none=>none|some (b2,l)=>some (b1&&b2,l,h)
variable {hi lo:Option AV}
def Jo{len l h:Nat}(e:g9 lo hi len=some (true,l,h)):ug lo hi len=some (l,h):=by unfold g9 at e;unfold ug;split at e;simp at e;rename_i b1 h' h1;split at e;simp at e;rename_i b2 l' h2;simp only[z6,zb,zf]at e;obtain⟨⟨rfl,rfl⟩,rfl,rfl⟩:=e;rw[ZO h1];simp only[ZO h2]
def nJ(P:Program)(H:List aC)(t:TypeId)(x:AV)(lo hi:Option AV):Option (Bool×AV):=match bN P t with|some ti=>(match ti.d,x with|.string,.str s=>(match g9 lo hi s.length with|some (b,l,h)=>some (b,.str ((s.drop l).take (h - l)))|none=>none)|.slice e,.list sz xs=>(match bN P e with|some te=>(if te.sz=sz then match g9 lo hi xs.length with|some (b,l,h)=>some (b,.list sz ((xs.drop l).take (h - l)))|none=>none else none)|none=>none)|.slice e,.nils=>(match bN P e with|some _=>(match g9 lo hi 0 with|some (b,_)=>some (b,.nils)|none=>none)|none=>none)|.slice e,.osl id ver off len=>(match bN P e,ii H id ver with|some te,some (bv,bx)=>(if te.sz=bx.sz then match g9 lo hi len with|some (b,l,h)=>some (bv&&b,.osl id ver (off+l) (h - l))|none=>none else none)|_,_=>none)|_,_=>none)|none=>none
def xCY{t:TypeId}{r:AV}(e:nJ P H t x lo hi=some (true,r)):uf P H t x lo hi=some r:=by
 unfold nJ at e;unfold uf;split at e;case h_2=>simp at e
 rename_i ti O;simp only[O];split at e;rename_i s hd;split at e;case h_2=>simp at e
 rename_i b l h hb;cases e;simp only[hd,Jo hb];rename_i e' sz xs hd;split at e;case h_2=>simp at e
 rename_i te q;split at e;case isFalse=>simp at e
 rename_i hsz;split at e;case h_2=>simp at e
 rename_i b l h hb;cases e;simp only[hd,q,hsz,if_true,Jo hb];rename_i e' hd;split at e;case h_2=>simp at e
 rename_i te q;split at e;case h_2=>simp at e
 rename_i b lh hb;cases e;simp only[hd,q,Jo hb];rename_i e' id ver off len hd;split at e;case h_2=>simp at e
 rename_i te bv bx q J;split at e;case isFalse=>simp at e
 rename_i hsz;split at e;case h_2=>simp at e
 rename_i b l h hb;simp only[z6,zb,zf]at e;obtain⟨⟨rfl,rfl⟩,rfl⟩:=e;simp only[hd,q,lQ J,hsz,if_true,Jo hb];simp at e
def iD(P:Program)(H:List aC)(t:TypeId)(x ix:AV):Option (Bool×AV):=match bN P t,ix with|some ti,.int _ n=>(match ti.d,x with|.slice e,.list sz xs=>(match bN P e with|some te=>if te.sz=sz then some (decide (0<=n)&&decide (n<(xs.length:Int)),.eptr sz xs n.toNat 0)else none|none=>none)|.slice e,.osl id ver off len=>(match bN P e,ii H id ver with|some te,some (bv,bx)=>if te.sz=bx.sz then some (bv&&(decide (0<=n)&&decide (n<(len:Int))),.own id ver (off+n.toNat) 0)else none|_,_=>none)|.array m e,.own id ver i j=>(match bN P e,ii H id ver with|some te,some (bv,bx)=>some (bv&&(decide (0<=n)&&decide (n<(m:Int))),.own id ver i (j+n.toNat*te.sz))|_,_=>none)|.array m e,.eptr sz xs i j=>(match bN P e with|some te=>some (decide (0<=n)&&decide (n<(m:Int)),.eptr sz xs i (j+n.toNat*te.sz))|none=>none)|_,_=>none)|_,_=>none
def xw4{t:TypeId}{ix r:AV}(e:iD P H t x ix=some (true,r)):o4 P H t x ix=some r:=by
 unfold iD at e;unfold o4;split at e;case h_2=>simp at e
 rename_i ti k n O;simp only[O];split at e;rename_i e' sz xs hd;split at e;case h_2=>simp at e
 rename_i te q;split at e;case isFalse=>simp at e
 rename_i hsz;simp only[z6,zb,zf,zl]at e;obtain⟨⟨h1,h2⟩,rfl⟩:=e;simp[hd,q,hsz,h1,h2];rename_i e' id ver off len hd;split at e;case h_2=>simp at e
 rename_i te bv bx q J;split at e;case isFalse=>simp at e
 rename_i hsz;simp only[z6,zb,zf,zl]at e;obtain⟨⟨rfl,h1,h2⟩,rfl⟩:=e;simp[hd,q,lQ J,hsz,h1,h2];rename_i m e' id ver i j hd;split at e;case h_2=>simp at e
 rename_i te bv bx q J;simp only[z6,zb,zf,zl]at e;obtain⟨⟨rfl,h1,h2⟩,rfl⟩:=e;simp[hd,q,lQ J,h1,h2];rename_i m e' sz xs i j hd;split at e;case h_2=>simp at e
 rename_i te q;simp only[z6,zb,zf,zl]at e;obtain⟨⟨h1,h2⟩,rfl⟩:=e;simp[hd,q,h1,h2];simp at e
def iC(P:Program)(H:List aC)(t:TypeId)(x:AV)(f:Nat):Option (Bool×AV):=match x with|.own id ver i j=>(match bN P t with|some ti=>(match ti.d with|.struct fs=>(match fs[f]? with|some fd=>(match bN P fd.type with|some tf=>(if tf.sz=0 then none else match ii H id ver with|some (bv,_)=>some (bv,.own id ver i (j+fd.offset))|none=>none)|none=>none)|none=>none)|_=>none)|none=>none)|x=>match qK P H t x f with|some r=>some (true,r)|none=>none
def xw1{t:TypeId}{r:AV}{f:Nat}(e:iC P H t x f=some (true,r)):qK P H t x f=some r:=by
 unfold iC at e;split at e;rename_i id ver i j;unfold qK;split at e;case h_2=>simp at e
 rename_i ti O;simp only[O];split at e;case h_2=>simp at e
 rename_i fs hd;simp only[hd];split at e;case h_2=>simp at e
 rename_i fd Q;simp only[Q];split at e;case h_2=>simp at e
 rename_i tf q;simp only[q];split at e;simp at e;rename_i hsz;rw[if_neg hsz];split at e;case h_2=>simp at e
 rename_i bv bx J;cases e;simp only[lQ J];split at e;rename_i r' hr;simp only[z6,zb,true_and]at e;rw[hr,e];simp at e
def nA(P:Program)(t:TypeId)(x ix:AV):Option (Bool×AV):=match bN P t,ix with|some ti,.int _ n=>(match ti.d,x with|.string,.str s=>some (decide (0<=n)&&decide (n<(s.length:Int)),.int .u8 ((s.getD n.toNat 0).toNat))|.array m e,.agg cs=>(match fQ P t x ix with|some r=>some (true,r)|none=>none)|_,_=>none)|_,_=>none
theorem xCI{t:TypeId}{ix r:AV}(e:nA P t x ix=some (true,r)):fQ P t x ix=some r:=by unfold nA fQ at *;grind
def wv(P:Program)(H:List aC)(t:TypeId)(x:AV):Option (Bool×AV):=match bN P t with|some ti=>(match ti.d,x with|.string,.str s=>some (true,.int .i64 s.length)|.slice _,.list _ xs=>some (true,.int .i64 xs.length)|.slice _,.nils=>some (true,.int .i64 0)|.slice _,.osl id ver _ len=>(match ii H id ver with|some (bv,_)=>some (bv,.int .i64 len)|none=>none)|_,_=>none)|none=>none
def xGw{t:TypeId}{r:AV}(e:wv P H t x=some (true,r)):gI P H t x=some r:=by
 unfold wv at e;unfold gI;split at e;case h_2=>simp at e
 rename_i ti J;simp only[J];split at e;rename_i s hd;simp only[z6,zb,true_and]at e;simp only[hd,e];rename_i s xs hd;simp only[z6,zb,true_and]at e;simp only[hd,e];rename_i hd;simp only[z6,zb,true_and]at e;simp only[hd,e];rename_i id ver off len hd;split at e;case h_2=>simp at e
 rename_i bv bx q;cases e;simp only[hd,lQ q];simp at e
def qr(P:Program)(nid:Nat)(t:TypeId)(l c:AV):Option (Bool×AV×Option aC):=match bN P t,l,c with|some ti,.int _ l,.int _ c=>(match ti.d with|.slice e=>(match bN P e with|some te=>if te.zero.okElem te.sz then some (decide (0<=l)&&(decide (l<=c)&&(decide ((te.bytes:Int)*c<=281474976710656)&&decide (c<=4611686018427387904))),.osl nid 0 0 l.toNat,some ⟨0,te.sz,e,List.replicate l.toNat te.zero,false,te.zero.pure⟩)else none|none=>none)|_=>none)|_,_,_=>none
variable {nid:Nat}
theorem xEI{t:TypeId}{l c:AV}{r:AV×Option aC}(e:qr P nid t l c=some (true,r)):iT P nid t l c=some r:=by unfold qr iT at *;grind
def so(P:Program)(ls:TypeId->Bool)(ρ:Operand->AV)(H:List aC)(nid:Nat)(op:Op):Option (Bool×AV×Option aC):=match op with|.load t a=>(match bN P t with|some ti=>(match jU P ls t H ti (ρ a)with|some (b,x)=>some (b,x,none)|none=>none)|none=>none)|.nilCheck x=>(match ρ x with|.own id ver i j=>(match ii H id ver with|some (b,_)=>some (b,.own id ver i j,none)|none=>none)|.eptr sz xs i j=>some (true,.eptr sz xs i j,none)|.func f cs=>(match Nat.beq f vpF with|true=>none|false=>some (true,.func f cs,none))|_=>none)|.binOp op t x y _=>(match vV P op t (ρ x) (ρ y)with|some (b,r)=>some (b,r,none)|none=>none)|.makeSlice t l c=>qr P nid t (ρ l) (ρ c)|.slice t x lo hi mx=>(match mx with|none=>(match nJ P H t (ρ x) (lo.map ρ) (hi.map ρ)with|some (b,r)=>some (b,r,none)|none=>none)|some _=>none)|.fieldAddr t x f=>(match iC P H t (ρ x) f with|some (b,r)=>some (b,r,none)|none=>none)|.indexAddr t x ix=>(match iD P H t (ρ x) (ρ ix)with|some (b,r)=>some (b,r,none)|none=>none)|.index t x ix=>(match nA P t (ρ x) (ρ ix)with|some (b,r)=>some (b,r,none)|none=>none)|.call c=>(match c.callee with|.builtin b=>(match b with|.len=>(match c.argTypes.toList,c.args.toList.map ρ with|t::_,[x]=>(match wv P H t x with|some (b,r)=>some (b,r,none)|none=>none)|_,_=>none)|b=>match e8 P ρ H nid (.call c)with|some (x,nb)=>some (true,x,nb)|none=>none)|_=>none)|op=>match e8 P ρ H nid op with|some (x,nb)=>some (true,x,nb)|none=>none
variable {op:Op}{ρ:Operand->AV}
def xzJ{ls:TypeId->Bool}{r:AV×Option aC}(e:so P ls ρ H nid op=some (true,r)):e8 P ρ H nid op=some r:=by
 unfold so at e;split at e;rename_i t a;split at e;case h_2=>simp at e
 rename_i ti q;split at e;case h_2=>simp at e
 rename_i b x hx;cases e;simp only[e8,q,YL hx];rename_i x;split at e;rename_i id ver i j hx;split at e;case h_2=>simp at e
 rename_i b bx hb;cases e;simp only[e8,hx,lQ hb];rename_i hx;simp only[z6,zb,true_and]at e;simp only[e8,hx,e];rename_i hx;split at e;simp at e;rename_i J;simp only[z6,zb,true_and]at e;simp only[e8,hx,J,e];simp at e;split at e;case h_2=>simp at e
 rename_i b x hx;cases e;simp only[e8,xFM hx];simp only[e8];exact xEI e;split at e;case h_2=>simp at e
 split at e;case h_2=>simp at e
 rename_i b x hx;cases e;simp only[e8,xCY hx];split at e;case h_2=>simp at e
 rename_i b x hx;cases e;simp only[e8,xw1 hx];split at e;case h_2=>simp at e
 rename_i b x hx;cases e;simp only[e8,xw4 hx];split at e;case h_2=>simp at e
 rename_i b x hx;cases e;simp only[e8,xCI hx];rename_i c;split at e;case h_2=>simp at e
 rename_i b hc;split at e;split at e;case h_2=>simp at e
 rename_i t ts x h1 h2;split at e;case h_2=>simp at e
 rename_i b y hx;cases e;simp only[e8,hc,h1,h2,xGw hx];split at e;case h_2=>simp at e
 rename_i x nb hx;simp only[z6,zb,true_and]at e;rw[hx,e];split at e;case h_2=>simp at e
 rename_i x nb hx;simp only[z6,zb,true_and]at e;rw[hx,e]
def nv(H:List aC)(sz:Nat):AV->Option (Bool×List AV×Bool)|.nils=>some (true,[],true)|.list sz' xs=>if sz'=sz then some (true,xs,true)else none|.osl id ver off len=>(match ii H id ver with|some (bv,bx)=>if bx.sz=sz/\bW bx.ty=false then some (bv&&decide (off+len<=bx.xs.length),(bx.xs.drop off).take len,bx.pm)else none|none=>none)|_=>none
def xCD{ys:List AV×Bool}(e:nv H sz x=some (true,ys)):sO H sz x=some ys:=by
 unfold nv at e;unfold sO;split at e;simp only[z6,zb,true_and]at e;simp only[e];split at e;rename_i h;simp only[z6,zb,true_and]at e;simp only[h,if_true,e];simp at e;split at e;case h_2=>simp at e
 rename_i bv bx hb;split at e;case isFalse=>simp at e
 rename_i hs;simp only[z6,zb,zf,zl]at e;obtain⟨⟨rfl,h1⟩,rfl⟩:=e;simp[lQ hb,hs.1,hs.2,h1];simp at e
def M.byteAVs(s:List UInt8):List AV:=s.map λ(u:UInt8)=>.int .u8 u.toNat
def qx(P:Program)(H:List aC)(t tt e:TypeId)(sz:Nat)(x:AV):Option (Bool×List AV×Bool):=
 if t=tt then nv H sz x else
  match bN P tt,bN P e,x with
  |some tj,some te,.str s=>match tj.d,te.d with
   |.string,.int .u8=>if te.sz=1 then some (true,M.byteAVs s,true)else none
   |_,_=>none
  |_,_,_=>none
def jS(P:Program)(H:List aC)(t tt:TypeId)(s x:AV):Option (Bool×AV×List aC):=match bN P t with|some ti=>(match ti.d with|.slice e=>(match bN P e with|some te=>(if 0<te.sz/\te.zero.okElem te.sz then match qx P H t tt e te.sz x with|some (by',ys,pm)=>(match s with|.nils=>some (by'&&(decide (ys.length*te.bytes<=140737488355328)&&decide (ys.length<=gb)),.osl H.length 0 0 ys.length,H++[⟨0,te.sz,e,ys,false,pm⟩])|.osl (.b id) ver off len=>(match ii H id ver with|some (bv,bx)=>if bx.frz=false/\bx.sz=te.sz/\bx.ty=e then some (by'&&(bv&&((off==0)&&((len==bx.xs.length)&&(decide ((len+ys.length)*te.bytes<=140737488355328)&&decide (len+ys.length<=gb))))),.osl id (ver+1) 0 (len+ys.length),H.set id ⟨ver+1,te.sz,e,bx.xs++ys,false,bx.pm&&pm⟩)else none|none=>none)|_=>none)|none=>none else none)|none=>none)|_=>none)|none=>none
def J4{t tt e:TypeId}{r:List AV×Bool}(h:qx P H t tt e sz x=some (true,r)):gh P H t tt e sz x=some r:=by
 unfold qx at h;unfold gh;split at h;rename_i q;rw[if_pos q];exact xCD h;rename_i q;rw[if_neg q];split at h;case h_2=>simp at h
 rename_i tj te s h1 h2;split at h;case h_2=>simp at h
 rename_i h3 h4;split at h;case isFalse=>simp at h
 rename_i h5;simp only[z6,zb,true_and,M.byteAVs]at h;simp only[h1,h2,h3,h4,h5,if_true,h]
variable {s:AV}
def Y3{t tt:TypeId}{r:AV×List aC}(e:jS P H t tt s x=some (true,r)):yN P H t tt s x=some r:=by
 unfold jS at e;unfold yN;split at e;case h_2=>simp at e
 rename_i ti J;simp only[J];split at e;case h_2=>simp at e
 rename_i e' hd;simp only[hd];split at e;case h_2=>simp at e
 rename_i te q;simp only[q];split at e;case isFalse=>simp at e
 rename_i hz;split at e;case h_2=>simp at e
 rename_i b ys pm hy;split at e;simp only[z6,zb,zf,zl]at e;obtain⟨⟨rfl,h1,h2⟩,rfl⟩:=e;simp only[J4 hy,js];rw[if_pos ⟨hz.1,h1,h2,hz.2⟩];rename_i id ver off len;split at e;case h_2=>simp at e
 rename_i bv bx hb;split at e;case isFalse=>simp at e
 rename_i hf;simp only[z6,zb,zf,zl,beq_iff_eq]at e;obtain⟨⟨rfl,rfl,h1,h2,h3,h4⟩,rfl⟩:=e;simp only[J4 hy,js,lQ hb];rw[if_pos ⟨h1,h2,hf.1,hf.2.1,hf.2.2,hz.1,h3,h4,hz.2⟩];simp at e
def nK(P:Program)(H:List aC)(t:TypeId)(a v:AV):Option (Bool×List aC):=match bN P t,a with|some ti,.own (.b id) ver i j=>(match ii H id ver with|some (bv,bx)=>if bx.frz=false/\v.okElem ti.sz/\j+ti.sz<=bx.sz/\bW bx.ty=false then some (bv&&decide (i<bx.xs.length),H.set id ⟨ver,bx.sz,bx.ty,bx.xs.set i (putCells (bx.xs.getD i .top) j ti.sz bx.sz v),false,bx.pm&&v.pure⟩)else none|none=>none)|_,_=>none
variable {v:AV}
def xC4{t:TypeId}{r:List aC}(e:nK P H t a v=some (true,r)):gJ P H t a v=some r:=by
 unfold nK at e;unfold gJ;split at e;case h_2=>simp at e
 rename_i ti id ver i j q;simp only[q];split at e;case h_2=>simp at e
 rename_i bv bx hb;split at e;case isFalse=>simp at e
 rename_i hc;simp only[z6,zb,zf,zl]at e;obtain⟨⟨rfl,h1⟩,rfl⟩:=e;simp only[lQ hb,Fy h1];rw[if_pos hc]
def yM(x:AV)(n:Nat):Bool:=match x with|.int _ l=>decide (l.toNat<n)|_=>false
def nj(P:Program)(H:List aC)(t:TypeId)(a v:AV):Option (Bool×List aC):=match bN P t,a,v with|some ti,.own (.b n) ver i j,.osl (.b id) ver2 off len=>(match H[n]?,H[id]? with|some bx,some b2=>if ti.sz=1/\bx.frz=false/\db bx.ty j/\bx.pm/\j<bx.sz/\b2.frz=false/\b2.pm/\bW b2.ty=false/\b2.ty=bM bx.ty/\dy bx.ty=false then some ((bx.ver==ver)&&((b2.ver==ver2)&&(decide (i<bx.xs.length)&&(((bx.xs.getD i .top).cells.length==bx.sz)&&((off==0)&&((len==b2.xs.length)&&yM ((bx.xs.getD i .top).cells.getD j .top) len))))),(H.set id ⟨ver2+1,b2.sz,b2.ty,[],false,true⟩).set n (iQ bx ver i j (.list b2.sz b2.xs)))else none|_,_=>none)|_,_,_=>none
def xCt{t:TypeId}{r:List aC}(e:nj P H t a v=some (true,r)):gH P H t a v=some r:=by
 unfold nj at e;unfold gH;split at e;case h_2=>simp at e
 rename_i ti n ver i j id q off len J;split at e;case h_2=>simp at e
 rename_i bx b2 hb O;split at e;case isFalse=>simp at e
 rename_i hc;simp only[z6,zb,zf,zl,beq_iff_eq]at e;obtain⟨⟨h1,h2,h3,h4,h5,h6,h7⟩,rfl⟩:=e;have g1:dT H (.b n) ver=some bx:=by unfold dT;simp only[getB,hb];exact if_pos ⟨h1,hc.2.2.2.2.2.2.2.2.2⟩
 have g2:dT H (.b id) q=some b2:=by unfold dT;simp only[getB,O];exact if_pos ⟨h2,kE hc.2.2.2.2.2.2.2.1⟩
 have g3:∃l0,gm ((bx.xs.getD i .top).cells.getD j .top)=some l0/\l0<len:=by unfold yM at h7;split at h7;rename_i kk l hl;rw[hl];exact⟨_,rfl,by simpa using h7⟩;simp at h7
 obtain⟨l0,g3,g4⟩:=g3;simp only[J,g1,g2,g3];rw[if_pos ⟨hc.1,hc.2.1,hc.2.2.1,hc.2.2.2.1,hc.2.2.2.2.1,h3,h4,hc.2.2.2.2.2.1,hc.2.2.2.2.2.2.1,hc.2.2.2.2.2.2.2.1,hc.2.2.2.2.2.2.2.2.1,h5,h6,g4⟩]
def p6(P:Program)(H:List aC)(t tt:TypeId)(s x:AV):Option (Bool×AV×List aC):=match bN P t,s with|some ti,.osl (.b n) ver off len=>(match ti.d with|.slice e=>(match bN P e,H[n]? with|some te,some bx=>(match qx P H t tt e te.sz x with|some (by',ys,pm)=>if bx.frz=false/\bx.sz=te.sz/\bW bx.ty/\gz bx.ty=e/\bx.pm/\pm/\jM bx.ty<te.sz/\0<te.sz/\te.zero.okElem te.sz/\0<ys.length/\ys.all (λ y=>nC (y.cells.getD (jM bx.ty) .top))/\dy bx.ty=false then some (by'&&((bx.ver==ver)&&((off==0)&&((len==bx.xs.length)&&(decide ((len+ys.length)*te.bytes<=140737488355328)&&decide (len+ys.length<=gb))))),.osl (.b n) (ver+1) 0 (len+ys.length),H.set n ⟨ver+1,te.sz,bx.ty,bx.xs++ys.map (newRow bx.ty te.sz),false,true⟩)else none|none=>none)|_,_=>none)|_=>none)|_,_=>none
def xEe{t tt:TypeId}{r:AV×List aC}(h:p6 P H t tt s x=some (true,r)):iR P H t tt s x=some r:=by
 unfold p6 at h;unfold iR;split at h;case h_2=>simp at h
 rename_i ti n ver off len W;split at h;case h_2=>simp at h
 rename_i e hd;split at h;case h_2=>simp at h
 rename_i te bx O hb;split at h;case h_2=>simp at h
 rename_i Y ys pm Q;split at h;case isFalse=>simp at h
 rename_i hc;simp only[z6,zb,zf,zl,beq_iff_eq]at h;obtain⟨⟨rfl,h1,h2,h3,h4,h5⟩,rfl⟩:=h;obtain⟨c1,c2,c3,c4,c5,c6,c7,c8,c9,V,J,q⟩:=hc;have g1:dT H (.b n) ver=some bx:=by unfold dT;simp only[getB,hb];exact if_pos ⟨h1,q⟩
 simp only[W,hd,O,g1,J4 Q];rw[if_pos ⟨h2,h3,c1,c2,c3,c4,c5,c6,c7,c8,h4,h5,c9,V,J⟩]
def qF(P:Program)(H:List aC)(t tt:TypeId)(s x:AV):Option (Bool×AV×List aC):=match s with
 |.osl (.r n i j) ver off len=>match H[n]? with
  |some bx=>
   if db bx.ty j/\bx.pm/\j<bx.sz then
    match jS P (H.set n (iQ bx bx.ver i j (.int .i64 ((bx.xs.getD i .top).cells.getD j .top).toList.length))++[⟨0,fE bx.ty,bM bx.ty,((bx.xs.getD i .top).cells.getD j .top).toList,bx.frz,true⟩]) t tt (.osl (.b H.length) 0 0 len) x with
    | some (b,r)=>some (decide (i<bx.xs.length)&&(jV (fE bx.ty) ((bx.xs.getD i .top).cells.getD j .top)&&(((bx.xs.getD i .top).cells.length==bx.sz)&&((ver==2*((bx.xs.getD i .top).cells.getD j .top).toList.length)&&((off==0)&&((len==((bx.xs.getD i .top).cells.getD j .top).toList.length)&&b))))),r)
    | none=>none else none
  |none=>none
 |_=>none
def xE8{t tt:TypeId}{r:AV×List aC}(h:qF P H t tt s x=some (true,r)):iW P H t tt s x=some r:=by
 unfold qF at h;unfold iW;split at h;case h_2=>simp at h
 rename_i n i j ver off len;split at h;case h_2=>simp at h
 rename_i bx hb;split at h;case isFalse=>simp at h
 rename_i hc;split at h;case h_2=>simp at h
 rename_i b r' ha;simp only[z6,zb,zf,zl,beq_iff_eq]at h;obtain⟨⟨h1,h2,h3,h4,h5,h6,rfl⟩,rfl⟩:=h;obtain⟨ys,hy⟩:=uZ h2;rw[hy]at ha h4 h6;simp only[AV.toList]at ha h4 h6;simp only[hb,hy];rw[if_pos ⟨hc.1,hc.2.1,hc.2.2,h1,h3,h4,h5,h6⟩];exact Y3 ha
def qp(P:Program)(H:List aC)(t:TypeId)(m k:AV)(c:Bool):Option (Bool×AV):=match m,k,P.underlying t with
 |.own (.b n) ver _ _,.str s,some (.map kt et)=>match P.underlying kt,bN P et,H[n]?,fV P false 8 et with
  |some .string,some te,some bx,[z]=>
   if dy bx.ty/\db bx.ty 0=false/\db bx.ty 1=false/\bx.sz=2/\bx.pm then
    some ((bx.ver==ver)&&(decide (s.length<=gb)&&cX z (eO te.zero bx.xs s)),match c with
     | true=>.tuple [oU z (eO te.zero bx.xs s),.bool (iL bx.xs s)]
     | false=>oU z (eO te.zero bx.xs s)) else none
  |_,_,_,_=>none
 |_,_,_=>none
variable {c:Bool}{k m:AV}
def xEG{t:TypeId}{r:AV}(h:qp P H t m k c=some (true,r)):dg P H t m k c=some r:=by
 unfold qp at h;unfold dg;split at h;case h_2=>simp at h
 rename_i n ver i j s kt et q;simp only[q];split at h;case h_2=>simp at h
 rename_i te bx z O J hb hz;split at h;case isFalse=>simp at h
 rename_i hc;simp only[z6,zb,zf,zl,beq_iff_eq]at h;obtain⟨⟨h1,h2,h3⟩,rfl⟩:=h;have g:bR H n ver=some bx:=by unfold bR;simp only[hb];exact if_pos ⟨h1,hc⟩
 simp only[O,J,g,Kz h3];exact if_pos h2
def qu(P:Program)(H:List aC)(t:TypeId)(m k v:AV):Option (Bool×List aC):=match m,k,P.underlying t with|.own (.b n) ver _ _,.str s,some (.map kt _)=>(match P.underlying kt,H[n]? with|some .string,some bx=>if dy bx.ty/\db bx.ty 0=false/\db bx.ty 1=false/\bx.sz=2/\bx.pm/\bx.frz=false/\v.one/\v.pure then some ((bx.ver==ver)&&(decide (bx.xs.length<gb)&&decide (s.length<=gb)),H.set n ⟨ver,2,bx.ty,dP bx.xs s v,false,true⟩)else none|_,_=>none)|_,_,_=>none
def xEN{t:TypeId}{r:List aC}(h:qu P H t m k v=some (true,r)):fy P H t m k v=some r:=by
 unfold qu at h;unfold fy;split at h;case h_2=>simp at h
 rename_i n ver i j s kt et q;simp only[q];split at h;case h_2=>simp at h
 rename_i bx J hb;split at h;case isFalse=>simp at h
 rename_i hc;obtain⟨c1,c2,c3,c4,c5,c6,c7,c8⟩:=hc;simp only[z6,zb,zf,zl,beq_iff_eq]at h;obtain⟨⟨h1,h2,h3⟩,rfl⟩:=h;have g:bR H n ver=some bx:=by unfold bR;simp only[hb];exact if_pos ⟨h1,c1,c2,c3,c4,c5⟩
 simp only[J,g];exact if_pos ⟨c6,c7,c8,h2,h3⟩
def jt(P:Program)(H:List aC)(t:TypeId)(m k:AV)(c:Bool):Option (Bool×AV):=match m,k,P.underlying t with
 |.own (.b n) ver _ _,.str s,some (.map kt et)=>match P.underlying kt,P.underlying et,bN P et,H[n]? with
  |some .string,some (.slice e2),some te,some bx=>match te.zero,bN P e2 with
   |.nils,some te2=>
    if dy bx.ty/\db bx.ty 0=false/\db bx.ty 1=false/\bx.sz=2/\bx.pm then
     some ((bx.ver==ver)&&(decide (s.length<=gb)&&(!iL bx.xs s || jV te2.sz (eO .nils bx.xs s))),match c with
      | true=>.tuple [.list te2.sz (dL bx.xs s),.bool (iL bx.xs s)]
      | false=>.list te2.sz (dL bx.xs s)) else none
   |_,_=>none
  |_,_,_,_=>none
 |_,_,_=>none
theorem Zh{t:TypeId}{r:AV}(h:jt P H t m k c=some (true,r)):bC P H t m k c=some r:=by unfold jt bC bR at *;grind
def xCJ{t:TypeId}(h:jt P H t m k c=none):bC P H t m k c=none:=by cases hl:bC P H t m k c with|none=>rfl|some r=>
 exfalso;unfold bC at hl;split at hl;case h_2=>simp at hl
 rename_i n ver i j s kt et J;split at hl;case h_2=>simp at hl
 rename_i e2 te bx V W Q O;split at hl;case h_2=>simp at hl
 rename_i Y hz q;obtain⟨b1,b2,b3⟩:=ES O;unfold jt at h;simp only[J,V,W,Q,b1,hz,q,b3]at h;simp at h
def nD (P:Program) (H:List aC) (t:TypeId) (m k:AV) (c:Bool):Option (Bool×Bool×Bool×AV×AV):=match m,k,P.underlying t with
 | .own (.b n) ver _ _,.str s,some (.map kt et)=>match P.underlying kt,bN P et,H[n]? with
  | some .string,some te,some bx=>if dy bx.ty/\db bx.ty 0=false/\db bx.ty 1/\bx.sz=2/\bx.pm then
   some ((bx.ver==ver)&&decide (s.length<=gb),iL bx.xs s,jV (fE bx.ty) ((bx.xs.getD (aM bx.xs s) .top).cells.getD 1 .top),
    match c with
    | true=>.tuple [.osl (.r n (aM bx.xs s) 1) (2*((bx.xs.getD (aM bx.xs s) .top).cells.getD 1 .top).toList.length) 0 ((bx.xs.getD (aM bx.xs s) .top).cells.getD 1 .top).toList.length,.bool true]
    | false=>.osl (.r n (aM bx.xs s) 1) (2*((bx.xs.getD (aM bx.xs s) .top).cells.getD 1 .top).toList.length) 0 ((bx.xs.getD (aM bx.xs s) .top).cells.getD 1 .top).toList.length,
    match c with
    | true=>.tuple [te.zero,.bool false]
    | false=>te.zero) else none
  | _,_,_=>none
 | _,_,_=>none
variable {b1:Bool}
def Zi{t:TypeId}{Q:Bool}(h:nD P H t m k c=some (true,Q,b1,x,y)):bC P H t m k c=none/\dg P H t m k c=none/\((Q->b1->cH P H t m k c=some x)/\(Q=false->cH P H t m k c=some y)):=by
 unfold nD at h;split at h;case h_2=>simp at h
 rename_i n ver i j s kt et q;split at h;case h_2=>simp at h
 rename_i te bx O J hb;split at h;case isFalse=>simp at h
 rename_i hc;obtain⟨c1,c2,c3,c4,c5⟩:=hc;simp only[z6,zb,zf,zl,beq_iff_eq]at h;obtain⟨⟨h1,h2⟩,rfl,rfl,rfl,rfl⟩:=h;have g:dE H n ver=some bx:=by unfold dE;simp only[hb];exact if_pos ⟨h1,c1,c2,c3,c4,c5⟩
 have g0:bR H n ver=none:=by unfold bR;simp only[hb];exact if_neg λ e=>by have:=e.2.2.2.1;rw[c3]at this;cases this
 refine⟨?_,?_,λ hh hr=>?_,λ hh=>?_⟩;cases hl:bC P H t (.own (.b n) ver i j) (.str s) c with|none=>rfl|some r=>obtain⟨n',V,i',j',bx',e,h'⟩:=Yv hl;simp only[AV.own.injEq,Id.b.injEq]at e;obtain⟨rfl,rfl,_,_⟩:=e;rw[g0]at h';cases h'
 unfold dg;simp only[q,O,J,g0];unfold cH;simp only[q,O,J,g];rw[if_pos h2];unfold iL at hh;cases hm:aO bx.xs s with|none=>rw[hm]at hh;cases hh|some i=>(have hp:aM bx.xs s=i:=by unfold aM;rw[hm]);rw[hp]at hr|-;obtain⟨ys,hy⟩:=uZ hr;cases c<;>(dsimp only;rw[hy];rfl)
 unfold cH;simp only[q,O,J,g];rw[if_pos h2];unfold iL at hh;cases hm:aO bx.xs s with|some i=>rw[hm]at hh;cases hh|none=>cases c<;>rfl
def kT(P:Program)(ρ:Operand->AV)(H:List aC)(op:Op):Option (Bool×Bool×Bool×AV×AV):=match op with|.lookup t m k c=>nD P H t (ρ m) (ρ k) c|_=>none
variable {q:Bool}
def xEz(h:kT P ρ H op=some (true,q,b1,x,y)):(q->b1->nB P ρ H op=some (x,H))/\(q=false->nB P ρ H op=some (y,H)):=by unfold kT at h;split at h;(case h_2=>simp at h);rename_i t m k c;obtain⟨h9,h0,h1,h2⟩:=Zi h;exact⟨λ a b=>by simp only[nB,h9,h0,h1 a b],λ a=>by simp only[nB,h9,h0,h2 a]⟩
def xEA(h:kT P ρ H op=some (true,q,b1,x,y)):(q->b1->fR P ρ H nid op=some (x,none))/\(q=false->fR P ρ H nid op=some (y,none)):=by unfold kT at h;split at h;(case h_2=>simp at h);rename_i t m k c;obtain⟨h9,_,h1,h2⟩:=Zi h;exact⟨λ a b=>by simp only[fR,h9,h1 a b],λ a=>by simp only[fR,h9,h2 a]⟩
def qv(P:Program)(H:List aC)(t:TypeId)(m k v:AV):Option (Bool×List aC):=match m,k,v,P.underlying t with|.own (.b n) ver _ _,.str s,.osl (.b id) ver2 off len,some (.map kt _)=>(match P.underlying kt,H[n]?,H[id]? with|some .string,some bx,some b2=>if dy bx.ty/\db bx.ty 0=false/\db bx.ty 1/\bx.sz=2/\bx.pm/\bx.frz=false/\b2.frz=false/\b2.pm/\bW b2.ty=false/\b2.ty=bM bx.ty then some ((bx.ver==ver)&&((b2.ver==ver2)&&((off==0)&&((len==b2.xs.length)&&(decide (bx.xs.length<gb)&&(decide (s.length<=gb)&&gM bx.xs s len))))),(H.set id ⟨ver2+1,b2.sz,b2.ty,[],false,true⟩).set n ⟨ver,2,bx.ty,dP bx.xs s (.list b2.sz b2.xs),false,true⟩)else none|_,_,_=>none)|_,_,_,_=>none
def xEP{t:TypeId}{r:List aC}(h:qv P H t m k v=some (true,r)):fy P H t m k v=none/\iV P H t m k v=some r:=by
 unfold qv at h;split at h;case h_2=>simp at h
 rename_i n ver i j s id O off len kt et q;split at h;case h_2=>simp at h
 rename_i bx b2 J hb V;split at h;case isFalse=>simp at h
 rename_i hc;obtain⟨c1,c2,c3,c4,c5,c6,c7,c8,c9,Q⟩:=hc;simp only[z6,zb,zf,zl,beq_iff_eq]at h;obtain⟨⟨h1,h2,h3,h4,h5,h6,h7⟩,rfl⟩:=h;have g:dE H n ver=some bx:=by unfold dE;simp only[hb];exact if_pos ⟨h1,c1,c2,c3,c4,c5⟩
 have g0:bR H n ver=none:=by unfold bR;simp only[hb];exact if_neg λ e=>by have:=e.2.2.2.1;rw[c3]at this;cases this
 have g2:dT H (.b id) O=some b2:=by unfold dT;simp only[getB,V];exact if_pos ⟨h2,kE c9⟩
 constructor;unfold fy;simp only[q,J,g0];unfold iV;simp only[q,J,g,g2];exact if_pos ⟨c6,c7,c8,c9,Q,h3,h4,h5,h6,h7⟩
def sv(P:Program)(ρ:Operand->AV)(H:List aC)(op:Op):Option (Bool×AV×List aC):=match op with|.store t a v=>(match FZ H (ρ a)with|true=>(match nj P H t (ρ a) (ρ v)with|some (b,H')=>some (b,.tuple [],H')|none=>none)|false=>match nK P H t (ρ a) (ρ v)with|some (b,H')=>some (b,.tuple [],H')|none=>none)|.call c=>(match c.callee with|.builtin b=>(match b,c.argTypes.toList,c.args.toList with|.append,[t,t'],[s,x]=>(match mr (ρ s)with|true=>qF P H t t' (ρ s) (ρ x)|false=>match FZ H (ρ s)with|true=>p6 P H t t' (ρ s) (ρ x)|false=>jS P H t t' (ρ s) (ρ x))|_,_,_=>none)|_=>none)|.lookup t m k c=>(match jt P H t (ρ m) (ρ k) c with|some (b,r)=>some (b,r,H)|none=>match qp P H t (ρ m) (ρ k) c with|some (b,r)=>some (b,r,H)|none=>none)|.mapUpdate t m k v=>(match qu P H t (ρ m) (ρ k) (ρ v)with|some (b,H')=>some (b,.tuple [],H')|none=>match qv P H t (ρ m) (ρ k) (ρ v)with|some (b,H')=>some (b,.tuple [],H')|none=>none)|.makeMap t r=>(match r with|none=>(match iU P H t with|some r=>some (true,r)|none=>none)|some _=>none)|_=>none
def xzO{r:AV×List aC}(e:sv P ρ H op=some (true,r)):nB P ρ H op=some r:=by
 unfold sv at e;unfold nB;split at e;split at e;rename_i hk;split at e;case h_2=>simp at e
 rename_i b H' h;cases e;simp only[hk,xCt h];rename_i hk;split at e;case h_2=>simp at e
 rename_i b H' h;cases e;simp only[hk,xC4 h];rename_i c;split at e;case h_2=>simp at e
 rename_i b hb;simp only[hb];split at e;rename_i t t' s x h1 h2;simp only[h1,h2];split at e;rename_i hk;simp only[hk];exact xE8 e;rename_i hk;simp only[hk];split at e;rename_i q;simp only[q];exact xEe e;rename_i q;simp only[q];exact Y3 e;simp at e;split at e;rename_i b r' h;cases e;simp only[Zh h];rename_i hl;split at e;case h_2=>simp at e
 rename_i b r' h;cases e;simp only[xCJ hl,xEG h];split at e;rename_i b H' h;cases e;simp only[xEN h];split at e;case h_2=>simp at e
 rename_i b H' h;cases e;obtain⟨h0,h1⟩:=xEP h;simp only[h0,h1];split at e;split at e;case h_2=>simp at e
 rename_i r' h;simp only[z6,zb,true_and]at e;simp only[h,e];simp at e;simp at e
def qi(P:Program)(ρ:Operand->AV)(H:List aC)(nid:Nat)(op:Op):Option (Bool×AV×Option aC):=match op with|.buildSlice t len parts=>(match fR P ρ H nid (.buildSlice t len parts)with|some (x,nb)=>some (true,x,nb)|none=>none)|.call c=>(match c.callee with|.builtin b=>(match b,c.argTypes.toList,c.args.toList with|.append,[t,t'],[s,x]=>(match ρ s with|.empt=>(match bN P t with|some ti=>(match ti.d with|.slice e=>(match bN P e with|some te=>(match qx P H t t' e te.sz (ρ x)with|some (by',ys,pm)=>if 0<te.sz/\te.zero.okElem te.sz then some (by'&&(decide (ys.length*te.bytes<=140737488355328)&&decide (ys.length<=gb)),.osl nid 0 0 ys.length,some ⟨0,te.sz,e,ys,false,pm⟩)else none|none=>none)|none=>none)|_=>none)|none=>none)|_=>none)|_,_,_=>none)|_=>none)|.lookup t m k c=>(match jt P H t (ρ m) (ρ k) c with|some (b,r)=>some (b,r,none)|none=>none)|_=>none
def xEw{r:AV×Option aC}(h:qi P ρ H nid op=some (true,r)):fR P ρ H nid op=some r:=by
 unfold qi at h;split at h;split at h;case h_2=>simp at h
 rename_i x nb hx;simp only[z6,zb,true_and]at h;rw[hx,h];rename_i c;split at h;case h_2=>simp at h
 rename_i b hb;split at h;case h_2=>simp at h
 rename_i t t' s x h1 h2;split at h;case h_2=>simp at h
 rename_i hs;split at h;case h_2=>simp at h
 rename_i ti O;split at h;case h_2=>simp at h
 rename_i e hd;split at h;case h_2=>simp at h
 rename_i te q;split at h;case h_2=>simp at h
 rename_i Q ys pm J;split at h;case isFalse=>simp at h
 rename_i hc;simp only[z6,zb,zf,zl]at h;obtain⟨⟨rfl,g1,g2⟩,rfl⟩:=h;simp only[fR,hb,h1,h2,g8,hs,O,hd,q,J4 J];exact if_pos ⟨hc.1,g1,g2,hc.2⟩;split at h;case h_2=>simp at h
 rename_i b r' hl;cases h;simp only[fR,Zh hl];simp at h
def qh(ρ:Operand->AV)(op:Op):Option (Bool×AV):=match op with|.box _ x=>(match (ρ x).cells.all AV.one with|true=>some ((ρ x).pure,.eptr (ρ x).cells.length [ρ x] 0 0)|false=>none)|_=>none
theorem xEv(h:qh ρ op=some (true,x)):fR P ρ H nid op=some (x,none):=by unfold qh fR at *;grind
def CG(ls:TypeId->Bool)(op:Op):Bool:=match op with|.box e _=>ls (1000000+e)|_=>false
end Go.Sim
end
