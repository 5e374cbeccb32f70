/- Part 5 of the proof of the law. -/
import Derived.Test.YtodofdnlhoknhaaGreatDoorTF4
set_option linter.defProp false
set_option linter.unusedVariables false
set_option linter.unusedSimpArgs false
set_option linter.unnecessarySimpa false
noncomputable section
namespace Go.Sim
open Go.RowKit
section cps
variable{T:Type}
noncomputable def br(t:Bool)(a b:T):T:=match t with|true=>a|false=>b
mutual
def force:AV->(AV->T)->T|.agg cs,K=>xNV cs λ q=>K (.agg q)|.tuple cs,K=>xNV cs λ q=>K (.tuple q)|.func f cs,K=>xNV cs λ q=>K (.func f q)|.top,K=>K .top|.bool b,K=>K (.bool b)|.int k n,K=>K (.int k n)|.str s,K=>K (.str s)|.nils,K=>K .nils|.list sz xs,K=>K (.list sz xs)|.eptr sz xs i j,K=>K (.eptr sz xs i j)|.own id ver i j,K=>K (.own id ver i j)|.osl id ver off len,K=>K (.osl id ver off len)|.nilptr,K=>K .nilptr|.nilfn,K=>K .nilfn|.empt,K=>K .empt|.gptr g,K=>K (.gptr g)|.yld g,K=>K (.yld g)
def xNV:List AV->(List AV->T)->T|[],K=>K []|x::xs,K=>force x λ x'=>xNV xs λ q=>K (x'::q)
end
mutual
def xdb:∀(x:AV)(K:AV->T),force x K=K x|.agg cs,K=>by simp only[force];exact xbz cs _|.tuple cs,K=>by simp only[force];exact xbz cs _|.func f cs,K=>by simp only[force];exact xbz cs _|.top,K=>rfl|.bool b,K=>rfl|.int k n,K=>rfl|.str s,K=>rfl|.nils,K=>rfl|.list sz xs,K=>rfl|.eptr sz xs i j,K=>rfl|.own id ver i j,K=>rfl|.osl id ver off len,K=>rfl|.nilptr,K=>rfl|.nilfn,K=>rfl|.empt,K=>rfl|.gptr g,K=>rfl|.yld g,K=>rfl
def xbz:∀(xs:List AV)(K:List AV->T),xNV xs K=K xs|[],K=>rfl|x::xs,K=>by simp only[xNV];rw[xdb x];exact xbz xs _
end
def setK:List AV->Nat->AV->(List AV->T)->T|[],_,_,K=>K []|_::xs,0,v,K=>K (v::xs)|x::xs,n+1,v,K=>setK xs n v λ l=>K (x::l)
def xoY:∀(xs:List AV)(n:Nat)(v:AV)(K:List AV->T),setK xs n v K=K (xs.set n v)|[],_,_,K=>rfl|_::xs,0,v,K=>rfl|x::xs,n+1,v,K=>by simp only[setK];rw[xoY xs n v];rfl
def putK(ts:List AV)(d:Option Tmp)(v:AV)(K:List AV->T):T:=match d with|some d=>setK ts d v K|none=>K ts
def xen(ts:List AV)(d:Option Tmp)(v:AV)(K:List AV->T):putK ts d v K=K (putT ts d v):=by cases d with|none=>rfl|some d=>exact xoY ts d v K
def forceB(b:Bool)(K:Bool->T):T:=match b with|true=>K true|false=>K false
def xyL(b:Bool)(K:Bool->T):forceB b K=K b:=by cases b<;>rfl
def xNu:List Box->(List Box->T)->T|[],K=>K []|⟨a,b,c,xs,f,p⟩::H,K=>forceB p λ p'=>forceB f λ f'=>xNu H λ H'=>K (⟨a,b,c,xs,f',p'⟩::H')
def xcb:∀(H:List Box)(K:List Box->T),xNu H K=K H|[],K=>rfl|⟨a,b,c,xs,f,p⟩::H,K=>by simp only[xNu];rw[xyL,xyL,xcb H]
end cps
noncomputable def AV.toInt:AV->Int|.int _ n=>n|_=>0
def AV.toStr:AV->List UInt8|.str s=>s|_=>[]
def AV.toBool:AV->Bool|.bool b=>b|_=>false
inductive Sh where|any|int (k:IntKind)|str|bool|list (sz:Nat)
def xMx:Sh->AV->Bool|.int k,.int k' _=>decide (k=k')|.int _,_=>false|.str,.str _=>true|.str,_=>false|.bool,.bool _=>true|.bool,_=>false|.list sz,.list sz' _=>Nat.beq sz sz'|.list _,_=>false|.any,_=>true
def eta1(z:Sh)(x:AV):AV:=match z with|.int k=>.int k x.toInt|.str=>.str x.toStr|.bool=>.bool x.toBool|.list sz=>.list sz x.toList|.any=>x
variable {x:AV}
def xuq{z:Sh}(h:xMx z x):eta1 z x=x:=by cases z<;>cases x<;>first|rfl|(simp[xMx]at h;done)|(simp[xMx]at h;subst h;rfl)
def xM6:List Sh->List AV->Nat->Bool|[],_,_=>true|z::zs,cs,j=>xMx z (cs.getD j .top)&&xM6 zs cs (j+1)
def etas:List Sh->List AV->Nat->List AV|[],_,_=>[]|z::zs,cs,j=>eta1 z (cs.getD j .top)::etas zs cs (j+1)
def xCj:∀{zs:List Sh}{cs:List AV}{j:Nat},xM6 zs cs j->j+zs.length<=cs.length->etas zs cs j=(cs.drop j).take zs.length|[],cs,j,_,_=>by simp[etas]|z::zs,cs,j,h,hl=>by(simp only[xM6,zf]at h;simp only[zF]at hl|-;have hj:j<cs.length:=Ω);rw[etas,xuq h.1,xCj h.2 Ω,List.drop_eq_getElem_cons hj,List.take_succ_cons];simp[z7,hj]
def shapesOf(P:Program)(ls:Bool):Nat->TypeId->List Sh|0,_=>[]|n+1,t=>match P.underlying t with|some (.int k)=>[.int k]|some .string=>[.str]|some .bool=>[.bool]|some (.slice e)=>(match ls,xM0 P e with|true,some te=>[.list te.sz]|_,_=>[.any])|some (.struct fs)=>fs.toList.flatMap λ f=>shapesOf P ls n f.type|some (.array m e)=>(List.replicate m (shapesOf P ls n e)).flatten|_=>[.any]
def getV(H:List Box)(id:Id)(ver:Nat):Option (Bool×Box):=match id with|.b n=>(match H[n]? with|some bx=>(match xM3 bx.ty with|true=>none|false=>some (bx.ver==ver,bx))|none=>none)|.r n i j=>match H[n]? with|some bx=>(match xM2 bx.ty j,bx.pm with|true,true=>some (decide (i<bx.xs.length)&&(xNH (rowSz bx.ty) ((bx.xs.getD i .top).cells.getD j .top)&&(2*((bx.xs.getD i .top).cells.getD j .top).toList.length==ver)),⟨2*((bx.xs.getD i .top).cells.getD j .top).toList.length,rowSz bx.ty,rowTy bx.ty,((bx.xs.getD i .top).cells.getD j .top).toList,bx.frz,true⟩)|_,_=>none)|none=>none
variable {H:List Box}
def xcc{id:Id}{ver:Nat}{bx:Box}(h:getV H id ver=some (true,bx)):xM4 H id ver=some bx:=by
 unfold getV at h;unfold xM4;split at h;split at h;rename_i b hb;split at h;simp at h;rename_i q;simp only[z6,zb,beq_iff_eq]at h;obtain⟨h1,rfl⟩:=h;simp only[getB,hb];exact if_pos ⟨h1,q⟩;simp at h;rename_i n i j;split at h;case h_2=>simp at h
 rename_i b hb;split at h;case h_2=>simp at h
 rename_i hs hp;simp only[z6,zb,zf,zl,beq_iff_eq]at h;obtain⟨⟨h0,h1,h2⟩,rfl⟩:=h;obtain⟨ys,hy⟩:=xhS h1;rw[hy]at h2|-;rw[xe5 hb (xgt hs) hs hp h0,hy];simp only[AV.toList]at h2;simp only[xNs,AV.toList];exact if_pos ⟨h2,xaV (xda _)⟩
def loadC(zs:List Sh)(ti:TI)(sz:Nat)(x:AV)(j:Nat):Option (Bool×AV):=
 if j+ti.sz<=sz/\zs.length=ti.sz then
  if ti.agg then some ((x.cells.length==sz)&&xM6 zs x.cells j,.agg (etas zs x.cells j))
  else match zs with
   |[z]=>some (xMx z (x.cells.getD j .top),eta1 z (x.cells.getD j .top))
   |_=>none
 else none
variable {j sz:Nat}{ti:TI}{zs:List Sh}
def xwe{r:AV}(h:loadC zs ti sz x j=some (true,r)):absLoad ti sz x.cells j=some r:=by
 unfold loadC at h;unfold absLoad;split at h;case isFalse=>simp at h
 rename_i hj;obtain⟨hj,hz⟩:=hj;rw[if_pos hj];split at h;rename_i ha;rw[if_pos ha];simp only[z6,zb,zf,beq_iff_eq]at h;obtain⟨⟨h1,h2⟩,rfl⟩:=h;rw[xCj h2 Ω,hz];rename_i ha;rw[if_neg ha];split at h;case h_2=>simp at h
 rename_i z;rw[if_pos (by simpa using hz.symm)];simp only[z6,zb]at h;rw[<-h.2,xuq h.1]
variable {i:Nat}
def xse{xs:List AV}(h:i<xs.length):xs[i]?=some (xs.getD i .top):=by simp[z7,h]
def loadM(zs:List Sh)(ti:TI)(n i j:Nat)(bx:Box):Option (Bool×AV):=
 if j<bx.sz/\ti.sz=1/\ti.agg=false then
  match xM2 bx.ty j with
  |true=>some (xNH (rowSz bx.ty) ((bx.xs.getD i .top).cells.getD j .top)&&((bx.xs.getD i .top).cells.length==bx.sz),.osl (.r n i j) (2*((bx.xs.getD i .top).cells.getD j .top).toList.length) 0 ((bx.xs.getD i .top).cells.getD j .top).toList.length)
  |false=>match zs with
   |[z]=>some (xMx z ((bx.xs.getD i .top).cells.getD j .top)&&((bx.xs.getD i .top).cells.length==bx.sz),eta1 z ((bx.xs.getD i .top).cells.getD j .top))
   |_=>none
 else none
variable {n:Nat}
def xDw{bx:Box}{r:AV}(h:loadM zs ti n i j bx=some (true,r)):absLoad ti bx.sz (viewL n i bx.ty (bx.xs.getD i .top).cells) j=some r:=by
 unfold loadM at h;split at h;case isFalse=>simp at h
 rename_i hc;obtain⟨hj,h1,h2⟩:=hc;unfold absLoad;rw[if_pos Ω,if_neg (by rw[h2];simp),if_pos h1];split at h;rename_i hs;simp only[z6,zb,zf,beq_iff_eq]at h;obtain⟨⟨h3,h4⟩,rfl⟩:=h;obtain⟨ys,hy⟩:=xhS h3;rw[xuj _ _ _ _ _ Ω];unfold xNp;rw[hs,hy];rfl;rename_i hs;split at h;case h_2=>simp at h
 rename_i z;simp only[z6,zb,zf,beq_iff_eq]at h;obtain⟨⟨h3,h4⟩,rfl⟩:=h;rw[xuj _ _ _ _ _ Ω,xuq h3];unfold xNp;rw[hs]
def loadAtC(P:Program)(ls:TypeId->Bool)(t:TypeId)(H:List Box)(ti:TI):AV->Option (Bool×AV)|.eptr sz xs i j=>(match loadC (shapesOf P (!ls (7000000+t)) 8 t) ti sz (xs.getD i .top) j with|some (b,r)=>some (decide (i<xs.length)&&b,r)|none=>none)|.own id ver i j=>(match getV H id ver with|some (bv,bx)=>(match isC bx.ty with|true=>(match loadM (shapesOf P (ls (rty bx.ty)) 8 t) ti id.base i j bx with|some (b,r)=>some (bv&&(decide (i<bx.xs.length)&&b),r)|none=>none)|false=>match loadC (shapesOf P (ls bx.ty) 8 t) ti bx.sz (bx.xs.getD i .top) j with|some (b,r)=>some (bv&&(decide (i<bx.xs.length)&&b),r)|none=>none)|none=>none)|.func f cs=>(match Nat.beq f vpF,cs with|true,[x]=>if ti.sz=1/\ti.agg=false then some (true,x)else none|_,_=>none)|_=>none
variable {P:Program}{a:AV}
def xtX{ls:TypeId->Bool}{t:TypeId}{r:AV}(h:loadAtC P ls t H ti a=some (true,r)):xNU H ti a=some r:=by
 unfold loadAtC at h;unfold xNU;split at h;rename_i sz xs i j;split at h;case h_2=>simp at h
 rename_i b r' hl;simp only[z6,zb,zf,zl]at h;obtain⟨⟨h1,rfl⟩,rfl⟩:=h;simp only[xse h1];exact xwe hl;rename_i id ver i j;split at h;case h_2=>simp at h
 rename_i bv bx hb;split at h;split at h;case h_2=>simp at h
 rename_i b r' hl;simp only[z6,zb,zf,zl]at h;obtain⟨⟨rfl,h1,rfl⟩,rfl⟩:=h;simp only[xcc hb,xse h1];exact xDw hl;rename_i J;split at h;case h_2=>simp at h
 rename_i b r' hl;simp only[z6,zb,zf,zl]at h;obtain⟨⟨rfl,h1,rfl⟩,rfl⟩:=h;simp only[xcc hb,xse h1];have hv:viewL id.base i bx.ty (bx.xs.getD i .top).cells=(bx.xs.getD i .top).cells:=by unfold viewL;rw[J]
 rw[hv];exact xwe hl;split at h;rename_i x' q;split at h;case isFalse=>simp at h
 rename_i hc;simp only[z6,zb,true_and]at h;simp only[q];rw[if_pos hc,h];simp at h;simp at h
def binC(P:Program)(op:BinOp)(t:TypeId)(x y:AV):Option (Bool×AV):=match op with|.quo=>(match x,y with|.int k a,.int k' b=>if k=k' then some (!(b==0),.int k (k.wrap (a.tdiv b)))else none|_,_=>none)|.rem=>(match x,y with|.int k a,.int k' b=>if k=k' then some (!(b==0),.int k (a.tmod b))else none|_,_=>none)|.add=>(match x,y with|.str a,.str b=>some (decide (a.length+b.length<=xNQ),.str (a++b))|_,_=>match absBin P .add t x y with|some r=>some (true,r)|none=>none)|op=>match absBin P op t x y with|some r=>some (true,r)|none=>none
variable {y:AV}
theorem xEC{op:BinOp}{t:TypeId}{r:AV}(h:binC P op t x y=some (true,r)):absBin P op t x y=some r:=by unfold binC absBin isShift absInt absStr at *;grind
def absBC(x:Option AV)(q len:Nat):Option (Bool×Nat):=match x with|none=>some (true,q)|some (.int _ n)=>some (decide (0<=n)&&decide (n<=(len:Int)),n.toNat)|some _=>none
theorem xvT{x:Option AV}{d len:Nat}(h:absBC x d len=some (true,n)):absB x d len=some n:=by unfold absBC absB at *;grind
def boundsC(lo hi:Option AV)(len:Nat):Option (Bool×Nat×Nat):=match absBC hi len len with|none=>none|some (b1,h)=>match absBC lo 0 h with|none=>none|some (b2,l)=>some (b1&&b2,l,h)
variable {hi lo:Option AV}
def xnD{len l h:Nat}(e:boundsC lo hi len=some (true,l,h)):xNz lo hi len=some (l,h):=by unfold boundsC at e;unfold xNz;split at e;simp at e;rename_i b1 h' h1;split at e;simp at e;rename_i b2 l' h2;simp only[z6,zb,zf]at e;obtain⟨⟨rfl,rfl⟩,rfl,rfl⟩:=e;rw[xvT h1];simp only[xvT h2]
def sliceC(P:Program)(H:List Box)(t:TypeId)(x:AV)(lo hi:Option AV):Option (Bool×AV):=match xM0 P t with|some ti=>(match ti.d,x with|.string,.str s=>(match boundsC lo hi s.length with|some (b,l,h)=>some (b,.str ((s.drop l).take (h - l)))|none=>none)|.slice e,.list sz xs=>(match xM0 P e with|some te=>(if te.sz=sz then match boundsC lo hi xs.length with|some (b,l,h)=>some (b,.list sz ((xs.drop l).take (h - l)))|none=>none else none)|none=>none)|.slice e,.nils=>(match xM0 P e with|some _=>(match boundsC lo hi 0 with|some (b,_)=>some (b,.nils)|none=>none)|none=>none)|.slice e,.osl id ver off len=>(match xM0 P e,getV H id ver with|some te,some (bv,bx)=>(if te.sz=bx.sz then match boundsC lo hi len with|some (b,l,h)=>some (bv&&b,.osl id ver (off+l) (h - l))|none=>none else none)|_,_=>none)|_,_=>none)|none=>none
def xBQ{t:TypeId}{r:AV}(e:sliceC P H t x lo hi=some (true,r)):xNF P H t x lo hi=some r:=by
 unfold sliceC at e;unfold xNF;split at e;case h_2=>simp at e
 rename_i ti O;simp only[O];split at e;rename_i s hd;split at e;case h_2=>simp at e
 rename_i b l h hb;cases e;simp only[hd,xnD hb];rename_i e' sz xs hd;split at e;case h_2=>simp at e
 rename_i te q;split at e;case isFalse=>simp at e
 rename_i hsz;split at e;case h_2=>simp at e
 rename_i b l h hb;cases e;simp only[hd,q,hsz,if_true,xnD hb];rename_i e' hd;split at e;case h_2=>simp at e
 rename_i te q;split at e;case h_2=>simp at e
 rename_i b lh hb;cases e;simp only[hd,q,xnD hb];rename_i e' id ver off len hd;split at e;case h_2=>simp at e
 rename_i te bv bx q J;split at e;case isFalse=>simp at e
 rename_i hsz;split at e;case h_2=>simp at e
 rename_i b l h hb;simp only[z6,zb,zf]at e;obtain⟨⟨rfl,rfl⟩,rfl⟩:=e;simp only[hd,q,xcc J,hsz,if_true,xnD hb];simp at e
def indexAddrC(P:Program)(H:List Box)(t:TypeId)(x ix:AV):Option (Bool×AV):=match xM0 P t,ix with|some ti,.int _ n=>(match ti.d,x with|.slice e,.list sz xs=>(match xM0 P e with|some te=>if te.sz=sz then some (decide (0<=n)&&decide (n<(xs.length:Int)),.eptr sz xs n.toNat 0)else none|none=>none)|.slice e,.osl id ver off len=>(match xM0 P e,getV H id ver with|some te,some (bv,bx)=>if te.sz=bx.sz then some (bv&&(decide (0<=n)&&decide (n<(len:Int))),.own id ver (off+n.toNat) 0)else none|_,_=>none)|.array m e,.own id ver i j=>(match xM0 P e,getV H id ver with|some te,some (bv,bx)=>some (bv&&(decide (0<=n)&&decide (n<(m:Int))),.own id ver i (j+n.toNat*te.sz))|_,_=>none)|.array m e,.eptr sz xs i j=>(match xM0 P e with|some te=>some (decide (0<=n)&&decide (n<(m:Int)),.eptr sz xs i (j+n.toNat*te.sz))|none=>none)|_,_=>none)|_,_=>none
def xv9{t:TypeId}{ix r:AV}(e:indexAddrC P H t x ix=some (true,r)):xM8 P H t x ix=some r:=by
 unfold indexAddrC at e;unfold xM8;split at e;case h_2=>simp at e
 rename_i ti k n O;simp only[O];split at e;rename_i e' sz xs hd;split at e;case h_2=>simp at e
 rename_i te q;split at e;case isFalse=>simp at e
 rename_i hsz;simp only[z6,zb,zf,zl]at e;obtain⟨⟨h1,h2⟩,rfl⟩:=e;simp[hd,q,hsz,h1,h2];rename_i e' id ver off len hd;split at e;case h_2=>simp at e
 rename_i te bv bx q J;split at e;case isFalse=>simp at e
 rename_i hsz;simp only[z6,zb,zf,zl]at e;obtain⟨⟨rfl,h1,h2⟩,rfl⟩:=e;simp[hd,q,xcc J,hsz,h1,h2];rename_i m e' id ver i j hd;split at e;case h_2=>simp at e
 rename_i te bv bx q J;simp only[z6,zb,zf,zl]at e;obtain⟨⟨rfl,h1,h2⟩,rfl⟩:=e;simp[hd,q,xcc J,h1,h2];rename_i m e' sz xs i j hd;split at e;case h_2=>simp at e
 rename_i te q;simp only[z6,zb,zf,zl]at e;obtain⟨⟨h1,h2⟩,rfl⟩:=e;simp[hd,q,h1,h2];simp at e
def fieldAddrC(P:Program)(H:List Box)(t:TypeId)(x:AV)(f:Nat):Option (Bool×AV):=match x with|.own id ver i j=>(match xM0 P t with|some ti=>(match ti.d with|.struct fs=>(match fs[f]? with|some fd=>(match xM0 P fd.type with|some tf=>(if tf.sz=0 then none else match getV H id ver with|some (bv,_)=>some (bv,.own id ver i (j+fd.offset))|none=>none)|none=>none)|none=>none)|_=>none)|none=>none)|x=>match xNd P H t x f with|some r=>some (true,r)|none=>none
def xv6{t:TypeId}{r:AV}{f:Nat}(e:fieldAddrC P H t x f=some (true,r)):xNd P H t x f=some r:=by
 unfold fieldAddrC at e;split at e;rename_i id ver i j;unfold xNd;split at e;case h_2=>simp at e
 rename_i ti O;simp only[O];split at e;case h_2=>simp at e
 rename_i fs hd;simp only[hd];split at e;case h_2=>simp at e
 rename_i fd Q;simp only[Q];split at e;case h_2=>simp at e
 rename_i tf q;simp only[q];split at e;simp at e;rename_i hsz;rw[if_neg hsz];split at e;case h_2=>simp at e
 rename_i bv bx J;cases e;simp only[xcc J];split at e;rename_i r' hr;simp only[z6,zb,true_and]at e;rw[hr,e];simp at e
def indexC(P:Program)(t:TypeId)(x ix:AV):Option (Bool×AV):=match xM0 P t,ix with|some ti,.int _ n=>(match ti.d,x with|.string,.str s=>some (decide (0<=n)&&decide (n<(s.length:Int)),.int .u8 ((s.getD n.toNat 0).toNat))|.array m e,.agg cs=>(match absIndex P t x ix with|some r=>some (true,r)|none=>none)|_,_=>none)|_,_=>none
theorem xBB{t:TypeId}{ix r:AV}(e:indexC P t x ix=some (true,r)):absIndex P t x ix=some r:=by unfold indexC absIndex at *;grind
def lenC(P:Program)(H:List Box)(t:TypeId)(x:AV):Option (Bool×AV):=match xM0 P t with|some ti=>(match ti.d,x with|.string,.str s=>some (true,.int .i64 s.length)|.slice _,.list _ xs=>some (true,.int .i64 xs.length)|.slice _,.nils=>some (true,.int .i64 0)|.slice _,.osl id ver _ len=>(match getV H id ver with|some (bv,_)=>some (bv,.int .i64 len)|none=>none)|_,_=>none)|none=>none
def xFn{t:TypeId}{r:AV}(e:lenC P H t x=some (true,r)):absLen P H t x=some r:=by
 unfold lenC at e;unfold absLen;split at e;case h_2=>simp at e
 rename_i ti J;simp only[J];split at e;rename_i s hd;simp only[z6,zb,true_and]at e;simp only[hd,e];rename_i s xs hd;simp only[z6,zb,true_and]at e;simp only[hd,e];rename_i hd;simp only[z6,zb,true_and]at e;simp only[hd,e];rename_i id ver off len hd;split at e;case h_2=>simp at e
 rename_i bv bx q;cases e;simp only[hd,xcc q];simp at e
def makeC(P:Program)(nid:Nat)(t:TypeId)(l c:AV):Option (Bool×AV×Option Box):=match xM0 P t,l,c with|some ti,.int _ l,.int _ c=>(match ti.d with|.slice e=>(match xM0 P e with|some te=>if te.zero.okElem te.sz then some (decide (0<=l)&&(decide (l<=c)&&(decide ((te.bytes:Int)*c<=281474976710656)&&decide (c<=4611686018427387904))),.osl nid 0 0 l.toNat,some ⟨0,te.sz,e,List.replicate l.toNat te.zero,false,te.zero.pure⟩)else none|none=>none)|_=>none)|_,_,_=>none
variable {nid:Nat}
theorem xDA{t:TypeId}{l c:AV}{r:AV×Option Box}(e:makeC P nid t l c=some (true,r)):absMake P nid t l c=some r:=by unfold makeC absMake at *;grind
def fopC(P:Program)(ls:TypeId->Bool)(ρ:Operand->AV)(H:List Box)(nid:Nat)(op:Op):Option (Bool×AV×Option Box):=match op with|.load t a=>(match xM0 P t with|some ti=>(match loadAtC P ls t H ti (ρ a)with|some (b,x)=>some (b,x,none)|none=>none)|none=>none)|.nilCheck x=>(match ρ x with|.own id ver i j=>(match getV H id ver with|some (b,_)=>some (b,.own id ver i j,none)|none=>none)|.eptr sz xs i j=>some (true,.eptr sz xs i j,none)|.func f cs=>(match Nat.beq f vpF with|true=>none|false=>some (true,.func f cs,none))|_=>none)|.binOp op t x y _=>(match binC P op t (ρ x) (ρ y)with|some (b,r)=>some (b,r,none)|none=>none)|.makeSlice t l c=>makeC P nid t (ρ l) (ρ c)|.slice t x lo hi mx=>(match mx with|none=>(match sliceC P H t (ρ x) (lo.map ρ) (hi.map ρ)with|some (b,r)=>some (b,r,none)|none=>none)|some _=>none)|.fieldAddr t x f=>(match fieldAddrC P H t (ρ x) f with|some (b,r)=>some (b,r,none)|none=>none)|.indexAddr t x ix=>(match indexAddrC P H t (ρ x) (ρ ix)with|some (b,r)=>some (b,r,none)|none=>none)|.index t x ix=>(match indexC P t (ρ x) (ρ ix)with|some (b,r)=>some (b,r,none)|none=>none)|.call c=>(match c.callee with|.builtin b=>(match b with|.len=>(match c.argTypes.toList,c.args.toList.map ρ with|t::_,[x]=>(match lenC P H t x with|some (b,r)=>some (b,r,none)|none=>none)|_,_=>none)|b=>match fop P ρ H nid (.call c)with|some (x,nb)=>some (true,x,nb)|none=>none)|_=>none)|op=>match fop P ρ H nid op with|some (x,nb)=>some (true,x,nb)|none=>none
variable {op:Op}{ρ:Operand->AV}
def xyJ{ls:TypeId->Bool}{r:AV×Option Box}(e:fopC P ls ρ H nid op=some (true,r)):fop P ρ H nid op=some r:=by
 unfold fopC at e;split at e;rename_i t a;split at e;case h_2=>simp at e
 rename_i ti q;split at e;case h_2=>simp at e
 rename_i b x hx;cases e;simp only[fop,q,xtX hx];rename_i x;split at e;rename_i id ver i j hx;split at e;case h_2=>simp at e
 rename_i b bx hb;cases e;simp only[fop,hx,xcc hb];rename_i hx;simp only[z6,zb,true_and]at e;simp only[fop,hx,e];rename_i hx;split at e;simp at e;rename_i J;simp only[z6,zb,true_and]at e;simp only[fop,hx,J,e];simp at e;split at e;case h_2=>simp at e
 rename_i b x hx;cases e;simp only[fop,xEC hx];simp only[fop];exact xDA e;split at e;case h_2=>simp at e
 split at e;case h_2=>simp at e
 rename_i b x hx;cases e;simp only[fop,xBQ hx];split at e;case h_2=>simp at e
 rename_i b x hx;cases e;simp only[fop,xv6 hx];split at e;case h_2=>simp at e
 rename_i b x hx;cases e;simp only[fop,xv9 hx];split at e;case h_2=>simp at e
 rename_i b x hx;cases e;simp only[fop,xBB hx];rename_i c;split at e;case h_2=>simp at e
 rename_i b hc;split at e;split at e;case h_2=>simp at e
 rename_i t ts x h1 h2;split at e;case h_2=>simp at e
 rename_i b y hx;cases e;simp only[fop,hc,h1,h2,xFn hx];split at e;case h_2=>simp at e
 rename_i x nb hx;simp only[z6,zb,true_and]at e;rw[hx,e];split at e;case h_2=>simp at e
 rename_i x nb hx;simp only[z6,zb,true_and]at e;rw[hx,e]
def elemsC(H:List Box)(sz:Nat):AV->Option (Bool×List AV×Bool)|.nils=>some (true,[],true)|.list sz' xs=>if sz'=sz then some (true,xs,true)else none|.osl id ver off len=>(match getV H id ver with|some (bv,bx)=>if bx.sz=sz/\isC bx.ty=false then some (bv&&decide (off+len<=bx.xs.length),(bx.xs.drop off).take len,bx.pm)else none|none=>none)|_=>none
def xBv{ys:List AV×Bool}(e:elemsC H sz x=some (true,ys)):xND H sz x=some ys:=by
 unfold elemsC at e;unfold xND;split at e;simp only[z6,zb,true_and]at e;simp only[e];split at e;rename_i h;simp only[z6,zb,true_and]at e;simp only[h,if_true,e];simp at e;split at e;case h_2=>simp at e
 rename_i bv bx hb;split at e;case isFalse=>simp at e
 rename_i hs;simp only[z6,zb,zf,zl]at e;obtain⟨⟨rfl,h1⟩,rfl⟩:=e;simp[xcc hb,hs.1,hs.2,h1];simp at e
def M.byteAVs(s:List UInt8):List AV:=s.map λ(u:UInt8)=>.int .u8 u.toNat
def srcC(P:Program)(H:List Box)(t tt e:TypeId)(sz:Nat)(x:AV):Option (Bool×List AV×Bool):=
 if t=tt then elemsC H sz x else
  match xM0 P tt,xM0 P e,x with
  |some tj,some te,.str s=>match tj.d,te.d with
   |.string,.int .u8=>if te.sz=1 then some (true,M.byteAVs s,true)else none
   |_,_=>none
  |_,_,_=>none
def appendC(P:Program)(H:List Box)(t tt:TypeId)(s x:AV):Option (Bool×AV×List Box):=match xM0 P t with|some ti=>(match ti.d with|.slice e=>(match xM0 P e with|some te=>(if 0<te.sz/\te.zero.okElem te.sz then match srcC P H t tt e te.sz x with|some (by',ys,pm)=>(match s with|.nils=>some (by'&&(decide (ys.length*te.bytes<=140737488355328)&&decide (ys.length<=xNQ)),.osl H.length 0 0 ys.length,H++[⟨0,te.sz,e,ys,false,pm⟩])|.osl (.b id) ver off len=>(match getV H id ver with|some (bv,bx)=>if bx.frz=false/\bx.sz=te.sz/\bx.ty=e then some (by'&&(bv&&((off==0)&&((len==bx.xs.length)&&(decide ((len+ys.length)*te.bytes<=140737488355328)&&decide (len+ys.length<=xNQ))))),.osl id (ver+1) 0 (len+ys.length),H.set id ⟨ver+1,te.sz,e,bx.xs++ys,false,bx.pm&&pm⟩)else none|none=>none)|_=>none)|none=>none else none)|none=>none)|_=>none)|none=>none
def xrH{t tt e:TypeId}{r:List AV×Bool}(h:srcC P H t tt e sz x=some (true,r)):absSrc P H t tt e sz x=some r:=by
 unfold srcC at h;unfold absSrc;split at h;rename_i q;rw[if_pos q];exact xBv h;rename_i q;rw[if_neg q];split at h;case h_2=>simp at h
 rename_i tj te s h1 h2;split at h;case h_2=>simp at h
 rename_i h3 h4;split at h;case isFalse=>simp at h
 rename_i h5;simp only[z6,zb,true_and,M.byteAVs]at h;simp only[h1,h2,h3,h4,h5,if_true,h]
variable {s:AV}
def xtI{t tt:TypeId}{r:AV×List Box}(e:appendC P H t tt s x=some (true,r)):xN4 P H t tt s x=some r:=by
 unfold appendC at e;unfold xN4;split at e;case h_2=>simp at e
 rename_i ti J;simp only[J];split at e;case h_2=>simp at e
 rename_i e' hd;simp only[hd];split at e;case h_2=>simp at e
 rename_i te q;simp only[q];split at e;case isFalse=>simp at e
 rename_i hz;split at e;case h_2=>simp at e
 rename_i b ys pm hy;split at e;simp only[z6,zb,zf,zl]at e;obtain⟨⟨rfl,h1,h2⟩,rfl⟩:=e;simp only[xrH hy,absApp];rw[if_pos ⟨hz.1,h1,h2,hz.2⟩];rename_i id ver off len;split at e;case h_2=>simp at e
 rename_i bv bx hb;split at e;case isFalse=>simp at e
 rename_i hf;simp only[z6,zb,zf,zl,beq_iff_eq]at e;obtain⟨⟨rfl,rfl,h1,h2,h3,h4⟩,rfl⟩:=e;simp only[xrH hy,absApp,xcc hb];rw[if_pos ⟨h1,h2,hf.1,hf.2.1,hf.2.2,hz.1,h3,h4,hz.2⟩];simp at e
def storeC(P:Program)(H:List Box)(t:TypeId)(a v:AV):Option (Bool×List Box):=match xM0 P t,a with|some ti,.own (.b id) ver i j=>(match getV H id ver with|some (bv,bx)=>if bx.frz=false/\v.okElem ti.sz/\j+ti.sz<=bx.sz/\isC bx.ty=false then some (bv&&decide (i<bx.xs.length),H.set id ⟨ver,bx.sz,bx.ty,bx.xs.set i (putCells (bx.xs.getD i .top) j ti.sz bx.sz v),false,bx.pm&&v.pure⟩)else none|none=>none)|_,_=>none
variable {v:AV}
def xBX{t:TypeId}{r:List Box}(e:storeC P H t a v=some (true,r)):absStore P H t a v=some r:=by
 unfold storeC at e;unfold absStore;split at e;case h_2=>simp at e
 rename_i ti id ver i j q;simp only[q];split at e;case h_2=>simp at e
 rename_i bv bx hb;split at e;case isFalse=>simp at e
 rename_i hc;simp only[z6,zb,zf,zl]at e;obtain⟨⟨rfl,h1⟩,rfl⟩:=e;simp only[xcc hb,xse h1];rw[if_pos hc]
def xN3(x:AV)(n:Nat):Bool:=match x with|.int _ l=>decide (l.toNat<n)|_=>false
def adoptC(P:Program)(H:List Box)(t:TypeId)(a v:AV):Option (Bool×List Box):=match xM0 P t,a,v with|some ti,.own (.b n) ver i j,.osl (.b id) ver2 off len=>(match H[n]?,H[id]? with|some bx,some b2=>if ti.sz=1/\bx.frz=false/\xM2 bx.ty j/\bx.pm/\j<bx.sz/\b2.frz=false/\b2.pm/\isC b2.ty=false/\b2.ty=rowTy bx.ty/\xM3 bx.ty=false then some ((bx.ver==ver)&&((b2.ver==ver2)&&(decide (i<bx.xs.length)&&(((bx.xs.getD i .top).cells.length==bx.sz)&&((off==0)&&((len==b2.xs.length)&&xN3 ((bx.xs.getD i .top).cells.getD j .top) len))))),(H.set id ⟨ver2+1,b2.sz,b2.ty,[],false,true⟩).set n (xM9 bx ver i j (.list b2.sz b2.xs)))else none|_,_=>none)|_,_,_=>none
def xBm{t:TypeId}{r:List Box}(e:adoptC P H t a v=some (true,r)):absAdopt P H t a v=some r:=by
 unfold adoptC at e;unfold absAdopt;split at e;case h_2=>simp at e
 rename_i ti n ver i j id q off len J;split at e;case h_2=>simp at e
 rename_i bx b2 hb O;split at e;case isFalse=>simp at e
 rename_i hc;simp only[z6,zb,zf,zl,beq_iff_eq]at e;obtain⟨⟨h1,h2,h3,h4,h5,h6,h7⟩,rfl⟩:=e;have g1:xM4 H (.b n) ver=some bx:=by unfold xM4;simp only[getB,hb];exact if_pos ⟨h1,hc.2.2.2.2.2.2.2.2.2⟩
 have g2:xM4 H (.b id) q=some b2:=by unfold xM4;simp only[getB,O];exact if_pos ⟨h2,xaV hc.2.2.2.2.2.2.2.1⟩
 have g3:∃l0,deadLen ((bx.xs.getD i .top).cells.getD j .top)=some l0/\l0<len:=by unfold xN3 at h7;split at h7;rename_i kk l hl;rw[hl];exact⟨_,rfl,by simpa using h7⟩;simp at h7
 obtain⟨l0,g3,g4⟩:=g3;simp only[J,g1,g2,g3];rw[if_pos ⟨hc.1,hc.2.1,hc.2.2.1,hc.2.2.2.1,hc.2.2.2.2.1,h3,h4,hc.2.2.2.2.2.1,hc.2.2.2.2.2.2.1,hc.2.2.2.2.2.2.2.1,hc.2.2.2.2.2.2.2.2.1,h5,h6,g4⟩]
def appCC(P:Program)(H:List Box)(t tt:TypeId)(s x:AV):Option (Bool×AV×List Box):=match xM0 P t,s with|some ti,.osl (.b n) ver off len=>(match ti.d with|.slice e=>(match xM0 P e,H[n]? with|some te,some bx=>(match srcC P H t tt e te.sz x with|some (by',ys,pm)=>if bx.frz=false/\bx.sz=te.sz/\isC bx.ty/\rty bx.ty=e/\bx.pm/\pm/\xM7 bx.ty<te.sz/\0<te.sz/\te.zero.okElem te.sz/\0<ys.length/\ys.all (λ y=>isNils (y.cells.getD (xM7 bx.ty) .top))/\xM3 bx.ty=false then some (by'&&((bx.ver==ver)&&((off==0)&&((len==bx.xs.length)&&(decide ((len+ys.length)*te.bytes<=140737488355328)&&decide (len+ys.length<=xNQ))))),.osl (.b n) (ver+1) 0 (len+ys.length),H.set n ⟨ver+1,te.sz,bx.ty,bx.xs++ys.map (newRow bx.ty te.sz),false,true⟩)else none|none=>none)|_,_=>none)|_=>none)|_,_=>none
def xC7{t tt:TypeId}{r:AV×List Box}(h:appCC P H t tt s x=some (true,r)):absAppC P H t tt s x=some r:=by
 unfold appCC at h;unfold absAppC;split at h;case h_2=>simp at h
 rename_i ti n ver off len W;split at h;case h_2=>simp at h
 rename_i e hd;split at h;case h_2=>simp at h
 rename_i te bx O hb;split at h;case h_2=>simp at h
 rename_i Y ys pm Q;split at h;case isFalse=>simp at h
 rename_i hc;simp only[z6,zb,zf,zl,beq_iff_eq]at h;obtain⟨⟨rfl,h1,h2,h3,h4,h5⟩,rfl⟩:=h;obtain⟨c1,c2,c3,c4,c5,c6,c7,c8,c9,V,J,q⟩:=hc;have g1:xM4 H (.b n) ver=some bx:=by unfold xM4;simp only[getB,hb];exact if_pos ⟨h1,q⟩
 simp only[W,hd,O,g1,xrH Q];rw[if_pos ⟨h2,h3,c1,c2,c3,c4,c5,c6,c7,c8,h4,h5,c9,V,J⟩]
def takeC(P:Program)(H:List Box)(t tt:TypeId)(s x:AV):Option (Bool×AV×List Box):=match s with
 |.osl (.r n i j) ver off len=>match H[n]? with
  |some bx=>
   if xM2 bx.ty j/\bx.pm/\j<bx.sz then
    match appendC P (H.set n (xM9 bx bx.ver i j (.int .i64 ((bx.xs.getD i .top).cells.getD j .top).toList.length))++[⟨0,rowSz bx.ty,rowTy bx.ty,((bx.xs.getD i .top).cells.getD j .top).toList,bx.frz,true⟩]) t tt (.osl (.b H.length) 0 0 len) x with
    | some (b,r)=>some (decide (i<bx.xs.length)&&(xNH (rowSz bx.ty) ((bx.xs.getD i .top).cells.getD j .top)&&(((bx.xs.getD i .top).cells.length==bx.sz)&&((ver==2*((bx.xs.getD i .top).cells.getD j .top).toList.length)&&((off==0)&&((len==((bx.xs.getD i .top).cells.getD j .top).toList.length)&&b))))),r)
    | none=>none else none
  |none=>none
 |_=>none
def xD3{t tt:TypeId}{r:AV×List Box}(h:takeC P H t tt s x=some (true,r)):absTake P H t tt s x=some r:=by
 unfold takeC at h;unfold absTake;split at h;case h_2=>simp at h
 rename_i n i j ver off len;split at h;case h_2=>simp at h
 rename_i bx hb;split at h;case isFalse=>simp at h
 rename_i hc;split at h;case h_2=>simp at h
 rename_i b r' ha;simp only[z6,zb,zf,zl,beq_iff_eq]at h;obtain⟨⟨h1,h2,h3,h4,h5,h6,rfl⟩,rfl⟩:=h;obtain⟨ys,hy⟩:=xhS h2;rw[hy]at ha h4 h6;simp only[AV.toList]at ha h4 h6;simp only[hb,hy];rw[if_pos ⟨hc.1,hc.2.1,hc.2.2,h1,h3,h4,h5,h6⟩];exact xtI ha
def lookC(P:Program)(H:List Box)(t:TypeId)(m k:AV)(c:Bool):Option (Bool×AV):=match m,k,P.underlying t with
 |.own (.b n) ver _ _,.str s,some (.map kt et)=>match P.underlying kt,xM0 P et,H[n]?,shapesOf P false 8 et with
  |some .string,some te,some bx,[z]=>
   if xM3 bx.ty/\xM2 bx.ty 0=false/\xM2 bx.ty 1=false/\bx.sz=2/\bx.pm then
    some ((bx.ver==ver)&&(decide (s.length<=xNQ)&&xMx z (xNj te.zero bx.xs s)),match c with
     | true=>.tuple [eta1 z (xNj te.zero bx.xs s),.bool (xNv bx.xs s)]
     | false=>eta1 z (xNj te.zero bx.xs s)) else none
  |_,_,_,_=>none
 |_,_,_=>none
variable {c:Bool}{k m:AV}
def xDy{t:TypeId}{r:AV}(h:lookC P H t m k c=some (true,r)):absLookM P H t m k c=some r:=by
 unfold lookC at h;unfold absLookM;split at h;case h_2=>simp at h
 rename_i n ver i j s kt et q;simp only[q];split at h;case h_2=>simp at h
 rename_i te bx z O J hb hz;split at h;case isFalse=>simp at h
 rename_i hc;simp only[z6,zb,zf,zl,beq_iff_eq]at h;obtain⟨⟨h1,h2,h3⟩,rfl⟩:=h;have g:getMap H n ver=some bx:=by unfold getMap;simp only[hb];exact if_pos ⟨h1,hc⟩
 simp only[O,J,g,xuq h3];exact if_pos h2
def putMC(P:Program)(H:List Box)(t:TypeId)(m k v:AV):Option (Bool×List Box):=match m,k,P.underlying t with|.own (.b n) ver _ _,.str s,some (.map kt _)=>(match P.underlying kt,H[n]? with|some .string,some bx=>if xM3 bx.ty/\xM2 bx.ty 0=false/\xM2 bx.ty 1=false/\bx.sz=2/\bx.pm/\bx.frz=false/\v.one/\v.pure then some ((bx.ver==ver)&&(decide (bx.xs.length<xNQ)&&decide (s.length<=xNQ)),H.set n ⟨ver,2,bx.ty,xNh bx.xs s v,false,true⟩)else none|_,_=>none)|_,_,_=>none
def xDF{t:TypeId}{r:List Box}(h:putMC P H t m k v=some (true,r)):absPutM P H t m k v=some r:=by
 unfold putMC at h;unfold absPutM;split at h;case h_2=>simp at h
 rename_i n ver i j s kt et q;simp only[q];split at h;case h_2=>simp at h
 rename_i bx J hb;split at h;case isFalse=>simp at h
 rename_i hc;obtain⟨c1,c2,c3,c4,c5,c6,c7,c8⟩:=hc;simp only[z6,zb,zf,zl,beq_iff_eq]at h;obtain⟨⟨h1,h2,h3⟩,rfl⟩:=h;have g:getMap H n ver=some bx:=by unfold getMap;simp only[hb];exact if_pos ⟨h1,c1,c2,c3,c4,c5⟩
 simp only[J,g];exact if_pos ⟨c6,c7,c8,h2,h3⟩
def lookLC(P:Program)(H:List Box)(t:TypeId)(m k:AV)(c:Bool):Option (Bool×AV):=match m,k,P.underlying t with
 |.own (.b n) ver _ _,.str s,some (.map kt et)=>match P.underlying kt,P.underlying et,xM0 P et,H[n]? with
  |some .string,some (.slice e2),some te,some bx=>match te.zero,xM0 P e2 with
   |.nils,some te2=>
    if xM3 bx.ty/\xM2 bx.ty 0=false/\xM2 bx.ty 1=false/\bx.sz=2/\bx.pm then
     some ((bx.ver==ver)&&(decide (s.length<=xNQ)&&(!xNv bx.xs s || xNH te2.sz (xNj .nils bx.xs s))),match c with
      | true=>.tuple [.list te2.sz (lookL bx.xs s),.bool (xNv bx.xs s)]
      | false=>.list te2.sz (lookL bx.xs s)) else none
   |_,_=>none
  |_,_,_,_=>none
 |_,_,_=>none
theorem xuN{t:TypeId}{r:AV}(h:lookLC P H t m k c=some (true,r)):absLookL P H t m k c=some r:=by unfold lookLC absLookL getMap at *;grind
def xBC{t:TypeId}(h:lookLC P H t m k c=none):absLookL P H t m k c=none:=by cases hl:absLookL P H t m k c with|none=>rfl|some r=>
 exfalso;unfold absLookL at hl;split at hl;case h_2=>simp at hl
 rename_i n ver i j s kt et J;split at hl;case h_2=>simp at hl
 rename_i e2 te bx V W Q O;split at hl;case h_2=>simp at hl
 rename_i Y hz q;obtain⟨b1,b2,b3⟩:=xmn O;unfold lookLC at h;simp only[J,V,W,Q,b1,hz,q,b3]at h;simp at h
def lookRC (P:Program) (H:List Box) (t:TypeId) (m k:AV) (c:Bool):Option (Bool×Bool×Bool×AV×AV):=match m,k,P.underlying t with
 | .own (.b n) ver _ _,.str s,some (.map kt et)=>match P.underlying kt,xM0 P et,H[n]? with
  | some .string,some te,some bx=>if xM3 bx.ty/\xM2 bx.ty 0=false/\xM2 bx.ty 1/\bx.sz=2/\bx.pm then
   some ((bx.ver==ver)&&decide (s.length<=xNQ),xNv bx.xs s,xNH (rowSz bx.ty) ((bx.xs.getD (putIx bx.xs s) .top).cells.getD 1 .top),
    match c with
    | true=>.tuple [.osl (.r n (putIx bx.xs s) 1) (2*((bx.xs.getD (putIx bx.xs s) .top).cells.getD 1 .top).toList.length) 0 ((bx.xs.getD (putIx bx.xs s) .top).cells.getD 1 .top).toList.length,.bool true]
    | false=>.osl (.r n (putIx bx.xs s) 1) (2*((bx.xs.getD (putIx bx.xs s) .top).cells.getD 1 .top).toList.length) 0 ((bx.xs.getD (putIx bx.xs s) .top).cells.getD 1 .top).toList.length,
    match c with
    | true=>.tuple [te.zero,.bool false]
    | false=>te.zero) else none
  | _,_,_=>none
 | _,_,_=>none
variable {b1:Bool}
def xuO{t:TypeId}{Q:Bool}(h:lookRC P H t m k c=some (true,Q,b1,x,y)):absLookL P H t m k c=none/\absLookM P H t m k c=none/\((Q->b1->absLookR P H t m k c=some x)/\(Q=false->absLookR P H t m k c=some y)):=by
 unfold lookRC at h;split at h;case h_2=>simp at h
 rename_i n ver i j s kt et q;split at h;case h_2=>simp at h
 rename_i te bx O J hb;split at h;case isFalse=>simp at h
 rename_i hc;obtain⟨c1,c2,c3,c4,c5⟩:=hc;simp only[z6,zb,zf,zl,beq_iff_eq]at h;obtain⟨⟨h1,h2⟩,rfl,rfl,rfl,rfl⟩:=h;have g:getMapR H n ver=some bx:=by unfold getMapR;simp only[hb];exact if_pos ⟨h1,c1,c2,c3,c4,c5⟩
 have g0:getMap H n ver=none:=by unfold getMap;simp only[hb];exact if_neg λ e=>by have:=e.2.2.2.1;rw[c3]at this;cases this
 refine⟨?_,?_,λ hh hr=>?_,λ hh=>?_⟩;cases hl:absLookL P H t (.own (.b n) ver i j) (.str s) c with|none=>rfl|some r=>obtain⟨n',V,i',j',bx',e,h'⟩:=xth hl;simp only[AV.own.injEq,Id.b.injEq]at e;obtain⟨rfl,rfl,_,_⟩:=e;rw[g0]at h';cases h'
 unfold absLookM;simp only[q,O,J,g0];unfold absLookR;simp only[q,O,J,g];rw[if_pos h2];unfold xNv at hh;cases hm:mapIx bx.xs s with|none=>rw[hm]at hh;cases hh|some i=>(have hp:putIx bx.xs s=i:=by unfold putIx;rw[hm]);rw[hp]at hr|-;obtain⟨ys,hy⟩:=xhS hr;cases c<;>(dsimp only;rw[hy];rfl)
 unfold absLookR;simp only[q,O,J,g];rw[if_pos h2];unfold xNv at hh;cases hm:mapIx bx.xs s with|some i=>rw[hm]at hh;cases hh|none=>cases c<;>rfl
def forkC(P:Program)(ρ:Operand->AV)(H:List Box)(op:Op):Option (Bool×Bool×Bool×AV×AV):=match op with|.lookup t m k c=>lookRC P H t (ρ m) (ρ k) c|_=>none
variable {q:Bool}
def xDr(h:forkC P ρ H op=some (true,q,b1,x,y)):(q->b1->iop P ρ H op=some (x,H))/\(q=false->iop P ρ H op=some (y,H)):=by unfold forkC at h;split at h;(case h_2=>simp at h);rename_i t m k c;obtain⟨h9,h0,h1,h2⟩:=xuO h;exact⟨λ a b=>by simp only[iop,h9,h0,h1 a b],λ a=>by simp only[iop,h9,h0,h2 a]⟩
def xDs(h:forkC P ρ H op=some (true,q,b1,x,y)):(q->b1->fopE P ρ H nid op=some (x,none))/\(q=false->fopE P ρ H nid op=some (y,none)):=by unfold forkC at h;split at h;(case h_2=>simp at h);rename_i t m k c;obtain⟨h9,_,h1,h2⟩:=xuO h;exact⟨λ a b=>by simp only[fopE,h9,h1 a b],λ a=>by simp only[fopE,h9,h2 a]⟩
def putRC(P:Program)(H:List Box)(t:TypeId)(m k v:AV):Option (Bool×List Box):=match m,k,v,P.underlying t with|.own (.b n) ver _ _,.str s,.osl (.b id) ver2 off len,some (.map kt _)=>(match P.underlying kt,H[n]?,H[id]? with|some .string,some bx,some b2=>if xM3 bx.ty/\xM2 bx.ty 0=false/\xM2 bx.ty 1/\bx.sz=2/\bx.pm/\bx.frz=false/\b2.frz=false/\b2.pm/\isC b2.ty=false/\b2.ty=rowTy bx.ty then some ((bx.ver==ver)&&((b2.ver==ver2)&&((off==0)&&((len==b2.xs.length)&&(decide (bx.xs.length<xNQ)&&(decide (s.length<=xNQ)&&deadR bx.xs s len))))),(H.set id ⟨ver2+1,b2.sz,b2.ty,[],false,true⟩).set n ⟨ver,2,bx.ty,xNh bx.xs s (.list b2.sz b2.xs),false,true⟩)else none|_,_,_=>none)|_,_,_,_=>none
def xDH{t:TypeId}{r:List Box}(h:putRC P H t m k v=some (true,r)):absPutM P H t m k v=none/\absPutR P H t m k v=some r:=by
 unfold putRC at h;split at h;case h_2=>simp at h
 rename_i n ver i j s id O off len kt et q;split at h;case h_2=>simp at h
 rename_i bx b2 J hb V;split at h;case isFalse=>simp at h
 rename_i hc;obtain⟨c1,c2,c3,c4,c5,c6,c7,c8,c9,Q⟩:=hc;simp only[z6,zb,zf,zl,beq_iff_eq]at h;obtain⟨⟨h1,h2,h3,h4,h5,h6,h7⟩,rfl⟩:=h;have g:getMapR H n ver=some bx:=by unfold getMapR;simp only[hb];exact if_pos ⟨h1,c1,c2,c3,c4,c5⟩
 have g0:getMap H n ver=none:=by unfold getMap;simp only[hb];exact if_neg λ e=>by have:=e.2.2.2.1;rw[c3]at this;cases this
 have g2:xM4 H (.b id) O=some b2:=by unfold xM4;simp only[getB,V];exact if_pos ⟨h2,xaV c9⟩
 constructor;unfold absPutM;simp only[q,J,g0];unfold absPutR;simp only[q,J,g,g2];exact if_pos ⟨c6,c7,c8,c9,Q,h3,h4,h5,h6,h7⟩
def iopC(P:Program)(ρ:Operand->AV)(H:List Box)(op:Op):Option (Bool×AV×List Box):=match op with|.store t a v=>(match mkd H (ρ a)with|true=>(match adoptC P H t (ρ a) (ρ v)with|some (b,H')=>some (b,.tuple [],H')|none=>none)|false=>match storeC P H t (ρ a) (ρ v)with|some (b,H')=>some (b,.tuple [],H')|none=>none)|.call c=>(match c.callee with|.builtin b=>(match b,c.argTypes.toList,c.args.toList with|.append,[t,t'],[s,x]=>(match isRowRef (ρ s)with|true=>takeC P H t t' (ρ s) (ρ x)|false=>match mkd H (ρ s)with|true=>appCC P H t t' (ρ s) (ρ x)|false=>appendC P H t t' (ρ s) (ρ x))|_,_,_=>none)|_=>none)|.lookup t m k c=>(match lookLC P H t (ρ m) (ρ k) c with|some (b,r)=>some (b,r,H)|none=>match lookC P H t (ρ m) (ρ k) c with|some (b,r)=>some (b,r,H)|none=>none)|.mapUpdate t m k v=>(match putMC P H t (ρ m) (ρ k) (ρ v)with|some (b,H')=>some (b,.tuple [],H')|none=>match putRC P H t (ρ m) (ρ k) (ρ v)with|some (b,H')=>some (b,.tuple [],H')|none=>none)|.makeMap t r=>(match r with|none=>(match absMakeM P H t with|some r=>some (true,r)|none=>none)|some _=>none)|_=>none
def xyP{r:AV×List Box}(e:iopC P ρ H op=some (true,r)):iop P ρ H op=some r:=by
 unfold iopC at e;unfold iop;split at e;split at e;rename_i hk;split at e;case h_2=>simp at e
 rename_i b H' h;cases e;simp only[hk,xBm h];rename_i hk;split at e;case h_2=>simp at e
 rename_i b H' h;cases e;simp only[hk,xBX h];rename_i c;split at e;case h_2=>simp at e
 rename_i b hb;simp only[hb];split at e;rename_i t t' s x h1 h2;simp only[h1,h2];split at e;rename_i hk;simp only[hk];exact xD3 e;rename_i hk;simp only[hk];split at e;rename_i q;simp only[q];exact xC7 e;rename_i q;simp only[q];exact xtI e;simp at e;split at e;rename_i b r' h;cases e;simp only[xuN h];rename_i hl;split at e;case h_2=>simp at e
 rename_i b r' h;cases e;simp only[xBC hl,xDy h];split at e;rename_i b H' h;cases e;simp only[xDF h];split at e;case h_2=>simp at e
 rename_i b H' h;cases e;obtain⟨h0,h1⟩:=xDH h;simp only[h0,h1];split at e;split at e;case h_2=>simp at e
 rename_i r' h;simp only[z6,zb,true_and]at e;simp only[h,e];simp at e;simp at e
def fopEC(P:Program)(ρ:Operand->AV)(H:List Box)(nid:Nat)(op:Op):Option (Bool×AV×Option Box):=match op with|.buildSlice t len parts=>(match fopE P ρ H nid (.buildSlice t len parts)with|some (x,nb)=>some (true,x,nb)|none=>none)|.call c=>(match c.callee with|.builtin b=>(match b,c.argTypes.toList,c.args.toList with|.append,[t,t'],[s,x]=>(match ρ s with|.empt=>(match xM0 P t with|some ti=>(match ti.d with|.slice e=>(match xM0 P e with|some te=>(match srcC P H t t' e te.sz (ρ x)with|some (by',ys,pm)=>if 0<te.sz/\te.zero.okElem te.sz then some (by'&&(decide (ys.length*te.bytes<=140737488355328)&&decide (ys.length<=xNQ)),.osl nid 0 0 ys.length,some ⟨0,te.sz,e,ys,false,pm⟩)else none|none=>none)|none=>none)|_=>none)|none=>none)|_=>none)|_,_,_=>none)|_=>none)|.lookup t m k c=>(match lookLC P H t (ρ m) (ρ k) c with|some (b,r)=>some (b,r,none)|none=>none)|_=>none
def xDp{r:AV×Option Box}(h:fopEC P ρ H nid op=some (true,r)):fopE P ρ H nid op=some r:=by
 unfold fopEC at h;split at h;split at h;case h_2=>simp at h
 rename_i x nb hx;simp only[z6,zb,true_and]at h;rw[hx,h];rename_i c;split at h;case h_2=>simp at h
 rename_i b hb;split at h;case h_2=>simp at h
 rename_i t t' s x h1 h2;split at h;case h_2=>simp at h
 rename_i hs;split at h;case h_2=>simp at h
 rename_i ti O;split at h;case h_2=>simp at h
 rename_i e hd;split at h;case h_2=>simp at h
 rename_i te q;split at h;case h_2=>simp at h
 rename_i Q ys pm J;split at h;case isFalse=>simp at h
 rename_i hc;simp only[z6,zb,zf,zl]at h;obtain⟨⟨rfl,g1,g2⟩,rfl⟩:=h;simp only[fopE,hb,h1,h2,absAppE,hs,O,hd,q,xrH J];exact if_pos ⟨hc.1,g1,g2,hc.2⟩;split at h;case h_2=>simp at h
 rename_i b r' hl;cases h;simp only[fopE,xuN hl];simp at h
def fopBC(ρ:Operand->AV)(op:Op):Option (Bool×AV):=match op with|.box _ x=>(match (ρ x).cells.all AV.one with|true=>some ((ρ x).pure,.eptr (ρ x).cells.length [ρ x] 0 0)|false=>none)|_=>none
theorem xDo(h:fopBC ρ op=some (true,x)):fopE P ρ H nid op=some (x,none):=by unfold fopBC fopE at *;grind
def frzOp(ls:TypeId->Bool)(op:Op):Bool:=match op with|.box e _=>ls (1000000+e)|_=>false
end Go.Sim
end
