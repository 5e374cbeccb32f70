/- Part 5 of the proof of the law. -/
import Derived.Test.YtefdfdjimkinpaaGreatDoorTA4
set_option linter.defProp false
set_option linter.unusedVariables false
set_option linter.unusedSimpArgs false
set_option linter.unnecessarySimpa false
noncomputable section
namespace Go.Sim
open Go.RowKit
section cps
variable {T : Type}
noncomputable def br (t:Bool) (a b:T):T:=match t with
 | true=>a
 | false=>b
mutual
def force:AV->(AV->T)->T
 | .agg cs,K=>xI1 cs fun q=>K (.agg q)
 | .tuple cs,K=>xI1 cs fun q=>K (.tuple q)
 | .func f cs,K=>xI1 cs fun q=>K (.func f q)
 | .top,K=>K .top
 | .bool b,K=>K (.bool b)
 | .int k n,K=>K (.int k n)
 | .str s,K=>K (.str s)
 | .nils,K=>K .nils
 | .list sz xs,K=>K (.list sz xs)
 | .eptr sz xs i j,K=>K (.eptr sz xs i j)
 | .own id ver i j,K=>K (.own id ver i j)
 | .osl id ver off len,K=>K (.osl id ver off len)
 | .nilptr,K=>K .nilptr
 | .nilfn,K=>K .nilfn
 | .empt,K=>K .empt
 | .gptr g,K=>K (.gptr g)
 | .yld g,K=>K (.yld g)
def xI1:List AV->(List AV->T)->T
 | [],K=>K []
 | x::xs,K=>force x fun x'=>xI1 xs fun q=>K (x'::q)
end
mutual
def xbU:∀ (x:AV) (K:AV->T),force x K=K x
 | .agg cs,K=>by simp only [force];exact xbb cs _
 | .tuple cs,K=>by simp only [force];exact xbb cs _
 | .func f cs,K=>by simp only [force];exact xbb cs _
 | .top,K=>rfl
 | .bool b,K=>rfl
 | .int k n,K=>rfl
 | .str s,K=>rfl
 | .nils,K=>rfl
 | .list sz xs,K=>rfl
 | .eptr sz xs i j,K=>rfl
 | .own id ver i j,K=>rfl
 | .osl id ver off len,K=>rfl
 | .nilptr,K=>rfl
 | .nilfn,K=>rfl
 | .empt,K=>rfl
 | .gptr g,K=>rfl
 | .yld g,K=>rfl
def xbb:∀ (xs:List AV) (K:List AV->T),xI1 xs K=K xs
 | [],K=>rfl
 | x::xs,K=>by simp only [xI1];rw [xbU x];exact xbb xs _
end
def setK:List AV->Nat->AV->(List AV->T)->T
 | [],_,_,K=>K []
 | _::xs,0,v,K=>K (v::xs)
 | x::xs,n+1,v,K=>setK xs n v fun l=>K (x::l)
def xlA:∀ (xs:List AV) (n:Nat) (v:AV) (K:List AV->T),setK xs n v K=K (xs.set n v)
 | [],_,_,K=>rfl
 | _::xs,0,v,K=>rfl
 | x::xs,n+1,v,K=>by simp only [setK];rw [xlA xs n v];rfl
def putK (ts:List AV) (d:Option Tmp) (v:AV) (K:List AV->T):T:=match d with
 | some d=>setK ts d v K
 | none=>K ts
def xcj (ts:List AV) (d:Option Tmp) (v:AV) (K:List AV->T):putK ts d v K=K (putT ts d v):=by
 cases d with
 | none=>rfl
 | some d=>exact xlA ts d v K
def forceB (b:Bool) (K:Bool->T):T:=match b with
 | true=>K true
 | false=>K false
def xtx (b:Bool) (K:Bool->T):forceB b K=K b:=by cases b<;>rfl
def xIC:List Box->(List Box->T)->T
 | [],K=>K []
 | ⟨a,b,c,xs,f,p⟩::H,K=>forceB p fun p'=>forceB f fun f'=>xIC H fun H'=>K (⟨a,b,c,xs,f',p'⟩::H')
def xbl:∀ (H:List Box) (K:List Box->T),xIC H K=K H
 | [],K=>rfl
 | ⟨a,b,c,xs,f,p⟩::H,K=>by simp only [xIC];rw [xtx,xtx,xbl H]
end cps
noncomputable def AV.toInt:AV->Int
 | .int _ n=>n
 | _=>0
def AV.toStr:AV->List UInt8
 | .str s=>s
 | _=>[]
def AV.toBool:AV->Bool
 | .bool b=>b
 | _=>false
inductive Sh where
 | any
 | int (k:IntKind)
 | str
 | bool
 | list (sz:Nat)
def xH6:Sh->AV->Bool
 | .int k,.int k' _=>decide (k=k')
 | .int _,_=>false
 | .str,.str _=>true
 | .str,_=>false
 | .bool,.bool _=>true
 | .bool,_=>false
 | .list sz,.list sz' _=>Nat.beq sz sz'
 | .list _,_=>false
 | .any,_=>true
def eta1 (z:Sh) (x:AV):AV:=match z with
 | .int k=>.int k x.toInt
 | .str=>.str x.toStr
 | .bool=>.bool x.toBool
 | .list sz=>.list sz x.toList
 | .any=>x
def xqJ {z:Sh} {x:AV} (h:xH6 z x=true):eta1 z x=x:=by
 cases z<;>cases x<;>first|rfl|(simp [xH6] at h;done)|(simp [xH6] at h;subst h;rfl)
def xId:List Sh->List AV->Nat->Bool
 | [],_,_=>true
 | z::zs,cs,j=>xH6 z (cs.getD j .top)&&xId zs cs (j+1)
def etas:List Sh->List AV->Nat->List AV
 | [],_,_=>[]
 | z::zs,cs,j=>eta1 z (cs.getD j .top)::etas zs cs (j+1)
def xyn:∀ {zs:List Sh} {cs:List AV} {j:Nat},xId zs cs j=true->j+zs.length<=cs.length->etas zs cs j=(cs.drop j).take zs.length
 | [],cs,j,_,_=>by simp [etas]
 | z::zs,cs,j,h,hl=>by
  simp only [xId,zg] at h;simp only [zG] at hl |-;have hj:j<cs.length:=by omega
  rw [etas,xqJ h.1,xyn h.2 (by omega),List.drop_eq_getElem_cons hj,List.take_succ_cons]
  simp [z7,hj]
def shapesOf (P:Program) (ls:Bool):Nat->TypeId->List Sh
 | 0,_=>[]
 | n+1,t=>match P.underlying t with
  | some (.int k)=>[.int k]
  | some .string=>[.str]
  | some .bool=>[.bool]
  | some (.slice e)=>match ls,xH7 P e with
   | true,some te=>[.list te.sz]
   | _,_=>[.any]
  | some (.struct fs)=>fs.toList.flatMap fun f=>shapesOf P ls n f.type
  | some (.array m e)=>(List.replicate m (shapesOf P ls n e)).flatten
  | _=>[.any]
def getV (H:List Box) (id:Id) (ver:Nat):Option (Bool×Box):=match id with
 | .b n=>match H[n]? with
  | some bx=>match xIa bx.ty with
   | true=>none
   | false=>some (bx.ver==ver,bx)
  | none=>none
 | .r n i j=>match H[n]? with
  | some bx=>match xH9 bx.ty j,bx.pm with
   | true,true=>some (decide (i<bx.xs.length)&&(xIO (rowSz bx.ty) ((bx.xs.getD i .top).cells.getD j .top)&&(2*((bx.xs.getD i .top).cells.getD j .top).toList.length==ver)),
    ⟨2*((bx.xs.getD i .top).cells.getD j .top).toList.length,rowSz bx.ty,rowTy bx.ty,((bx.xs.getD i .top).cells.getD j .top).toList,bx.frz,true⟩)
   | _,_=>none
  | none=>none
def xbm {H:List Box} {id:Id} {ver:Nat} {bx:Box} (h:getV H id ver=some (true,bx)):xIb H id ver=some bx:=by
 unfold getV at h;unfold xIb;split at h
 . split at h
   . rename_i b hb;split at h
     . simp at h
     rename_i q;simp only [z6,zb,beq_iff_eq] at h;obtain ⟨h1,rfl⟩:=h;simp only [getB,hb];exact if_pos ⟨h1,q⟩
   . simp at h
 . rename_i n i j;split at h
   case h_2=>simp at h
   rename_i b hb;split at h
   case h_2=>simp at h
   rename_i hs hp;simp only [z6,zb,zg,zm,beq_iff_eq] at h;obtain ⟨⟨h0,h1,h2⟩,rfl⟩:=h;obtain ⟨ys,hy⟩:=xfU h1;rw [hy] at h2 |-;rw [xeP hb (xeQ hs) hs hp h0,hy];simp only [AV.toList] at h2;simp only [xIA,AV.toList];exact if_pos ⟨h2,xaH (xbQ _)⟩
def loadC (zs:List Sh) (ti:TI) (sz:Nat) (x:AV) (j:Nat):Option (Bool×AV) :=
 if j+ti.sz<=sz/\zs.length=ti.sz then
  if ti.agg=true then some ((x.cells.length==sz)&&xId zs x.cells j,.agg (etas zs x.cells j))
  else match zs with
   | [z]=>some (xH6 z (x.cells.getD j .top),eta1 z (x.cells.getD j .top))
   | _=>none
 else none
def xsB {zs:List Sh} {ti:TI} {sz:Nat} {x r:AV} {j:Nat} (h:loadC zs ti sz x j=some (true,r)):absLoad ti sz x.cells j=some r:=by
 unfold loadC at h;unfold absLoad;split at h
 case isFalse=>simp at h
 rename_i hj;obtain ⟨hj,hz⟩:=hj;rw [if_pos hj];split at h
 . rename_i ha;rw [if_pos ha];simp only [z6,zb,zg,beq_iff_eq] at h;obtain ⟨⟨h1,h2⟩,rfl⟩:=h;rw [xyn h2 (by omega),hz]
 . rename_i ha;rw [if_neg ha];split at h
   case h_2=>simp at h
   rename_i z;rw [if_pos (by simpa using hz.symm)]
   simp only [z6,zb] at h;rw [<-h.2,xqJ h.1]
def xoH {xs:List AV} {i:Nat} (h:i<xs.length):xs[i]?=some (xs.getD i .top):=by
 simp [z7,h]
def loadM (zs:List Sh) (ti:TI) (n i j:Nat) (bx:Box):Option (Bool×AV) :=
 if j<bx.sz/\ti.sz=1/\ti.agg=false then
  match xH9 bx.ty j with
  | true=>some (xIO (rowSz bx.ty) ((bx.xs.getD i .top).cells.getD j .top)&&((bx.xs.getD i .top).cells.length==bx.sz),.osl (.r n i j) (2*((bx.xs.getD i .top).cells.getD j .top).toList.length) 0 ((bx.xs.getD i .top).cells.getD j .top).toList.length)
  | false=>match zs with
   | [z]=>some (xH6 z ((bx.xs.getD i .top).cells.getD j .top)&&((bx.xs.getD i .top).cells.length==bx.sz),eta1 z ((bx.xs.getD i .top).cells.getD j .top))
   | _=>none
 else none
def xzm {zs:List Sh} {ti:TI} {n i j:Nat} {bx:Box} {r:AV} (h:loadM zs ti n i j bx=some (true,r)):absLoad ti bx.sz (viewL n i bx.ty (bx.xs.getD i .top).cells) j=some r:=by
 unfold loadM at h;split at h
 case isFalse=>simp at h
 rename_i hc;obtain ⟨hj,h1,h2⟩:=hc;unfold absLoad;rw [if_pos (by omega),if_neg (by rw [h2];simp),if_pos h1]
 split at h
 . rename_i hs;simp only [z6,zb,zg,beq_iff_eq] at h;obtain ⟨⟨h3,h4⟩,rfl⟩:=h;obtain ⟨ys,hy⟩:=xfU h3;rw [xqD _ _ _ _ _ (by omega)]
   unfold xIw;rw [hs,hy];rfl
 . rename_i hs;split at h
   case h_2=>simp at h
   rename_i z;simp only [z6,zb,zg,beq_iff_eq] at h;obtain ⟨⟨h3,h4⟩,rfl⟩:=h;rw [xqD _ _ _ _ _ (by omega),xqJ h3]
   unfold xIw;rw [hs]
def loadAtC (P:Program) (ls:TypeId->Bool) (t:TypeId) (H:List Box) (ti:TI):AV->Option (Bool×AV)
 | .eptr sz xs i j=>match loadC (shapesOf P (!ls (7000000+t)) 8 t) ti sz (xs.getD i .top) j with
  | some (b,r)=>some (decide (i<xs.length)&&b,r)
  | none=>none
 | .own id ver i j=>match getV H id ver with
  | some (bv,bx)=>match isC bx.ty with
   | true=>match loadM (shapesOf P (ls (rty bx.ty)) 8 t) ti id.base i j bx with
    | some (b,r)=>some (bv&&(decide (i<bx.xs.length)&&b),r)
    | none=>none
   | false=>match loadC (shapesOf P (ls bx.ty) 8 t) ti bx.sz (bx.xs.getD i .top) j with
    | some (b,r)=>some (bv&&(decide (i<bx.xs.length)&&b),r)
    | none=>none
  | none=>none
 | .func f cs=>match Nat.beq f vpF,cs with
  | true,[x]=>if ti.sz=1/\ti.agg=false then some (true,x) else none
  | _,_=>none
 | _=>none
def xqi {P:Program} {ls:TypeId->Bool} {t:TypeId} {H:List Box} {ti:TI} {a r:AV} (h:loadAtC P ls t H ti a=some (true,r)):xI0 H ti a=some r:=by
 unfold loadAtC at h;unfold xI0;split at h
 . rename_i sz xs i j;split at h
   case h_2=>simp at h
   rename_i b r' hl;simp only [z6,zb,zg,zm] at h;obtain ⟨⟨h1,rfl⟩,rfl⟩:=h;simp only [xoH h1];exact xsB hl
 . rename_i id ver i j;split at h
   case h_2=>simp at h
   rename_i bv bx hb;split at h
   . split at h
     case h_2=>simp at h
     rename_i b r' hl;simp only [z6,zb,zg,zm] at h;obtain ⟨⟨rfl,h1,rfl⟩,rfl⟩:=h;simp only [xbm hb,xoH h1];exact xzm hl
   . rename_i D;split at h
     case h_2=>simp at h
     rename_i b r' hl;simp only [z6,zb,zg,zm] at h;obtain ⟨⟨rfl,h1,rfl⟩,rfl⟩:=h;simp only [xbm hb,xoH h1];have hv:viewL id.base i bx.ty (bx.xs.getD i .top).cells=(bx.xs.getD i .top).cells:=by unfold viewL;rw [D]
     rw [hv];exact xsB hl
 . split at h
   . rename_i x' q;split at h
     case isFalse=>simp at h
     rename_i hc;simp only [z6,zb,true_and] at h;simp only [q];rw [if_pos hc,h]
   . simp at h
 . simp at h
def binC (P:Program) (op:BinOp) (t:TypeId) (x y:AV):Option (Bool×AV) :=
 match op with
 | .quo=>match x,y with
  | .int k a,.int k' b=>if k=k' then some (!(b==0),.int k (k.wrap (a.tdiv b))) else none
  | _,_=>none
 | .rem=>match x,y with
  | .int k a,.int k' b=>if k=k' then some (!(b==0),.int k (a.tmod b)) else none
  | _,_=>none
 | .add=>match x,y with
  | .str a,.str b=>some (decide (a.length+b.length<=xIX),.str (a++b))
  | _,_=>match absBin P .add t x y with
   | some r=>some (true,r)
   | none=>none
 | op=>match absBin P op t x y with
  | some r=>some (true,r)
  | none=>none
def xAk {P:Program} {op:BinOp} {t:TypeId} {x y r:AV} (h:binC P op t x y=some (true,r)):absBin P op t x y=some r:=by unfold binC absBin isShift absInt absStr at *;grind
def absBC (x:Option AV) (q len:Nat):Option (Bool×Nat) :=
 match x with
 | none=>some (true,q)
 | some (.int _ n)=>some (decide (0<=n)&&decide (n<=(len:Int)),n.toNat)
 | some _=>none
def xsf {x:Option AV} {d len n:Nat} (h:absBC x d len=some (true,n)):absB x d len=some n:=by unfold absBC absB at *;grind
def boundsC (lo hi:Option AV) (len:Nat):Option (Bool×Nat×Nat) :=
 match absBC hi len len with
 | none=>none
 | some (b1,h)=>match absBC lo 0 h with
  | none=>none
  | some (b2,l)=>some (b1&&b2,l,h)
def xka {lo hi:Option AV} {len l h:Nat} (e:boundsC lo hi len=some (true,l,h)):xIG lo hi len=some (l,h):=by
 unfold boundsC at e;unfold xIG;split at e
 . simp at e
 rename_i b1 h' h1;split at e
 . simp at e
 rename_i b2 l' h2;simp only [z6,zb,zg] at e;obtain ⟨⟨rfl,rfl⟩,rfl,rfl⟩:=e;rw [xsf h1];simp only [xsf h2]
def sliceC (P:Program) (H:List Box) (t:TypeId) (x:AV) (lo hi:Option AV):Option (Bool×AV) :=
 match xH7 P t with
 | some ti=>match ti.d,x with
  | .string,.str s=>match boundsC lo hi s.length with
   | some (b,l,h)=>some (b,.str ((s.drop l).take (h - l)))
   | none=>none
  | .slice e,.list sz xs=>match xH7 P e with
   | some te=>if te.sz=sz then match boundsC lo hi xs.length with
    | some (b,l,h)=>some (b,.list sz ((xs.drop l).take (h - l)))
    | none=>none else none
   | none=>none
  | .slice e,.nils=>match xH7 P e with
   | some _=>match boundsC lo hi 0 with
    | some (b,_)=>some (b,.nils)
    | none=>none
   | none=>none
  | .slice e,.osl id ver off len=>match xH7 P e,getV H id ver with
   | some te,some (bv,bx)=>if te.sz=bx.sz then match boundsC lo hi len with
    | some (b,l,h)=>some (bv&&b,.osl id ver (off+l) (h - l))
    | none=>none else none
   | _,_=>none
  | _,_=>none
 | none=>none
def xwS {P:Program} {H:List Box} {t:TypeId} {x r:AV} {lo hi:Option AV} (e:sliceC P H t x lo hi=some (true,r)):xIM P H t x lo hi=some r:=by
 unfold sliceC at e;unfold xIM;split at e
 case h_2=>simp at e
 rename_i ti J;simp only [J];split at e
 . rename_i s hd;split at e
   case h_2=>simp at e
   rename_i b l h hb;simp only [z6,zb] at e;obtain ⟨rfl,rfl⟩:=e;simp only [hd,xka hb]
 . rename_i e' sz xs hd;split at e
   case h_2=>simp at e
   rename_i te q;split at e
   case isFalse=>simp at e
   rename_i hsz;split at e
   case h_2=>simp at e
   rename_i b l h hb;simp only [z6,zb] at e;obtain ⟨rfl,rfl⟩:=e;simp only [hd,q,hsz,if_true,xka hb]
 . rename_i e' hd;split at e
   case h_2=>simp at e
   rename_i te q;split at e
   case h_2=>simp at e
   rename_i b lh hb;simp only [z6,zb] at e;obtain ⟨rfl,rfl⟩:=e;simp only [hd,q,xka hb]
 . rename_i e' id ver off len hd;split at e
   case h_2=>simp at e
   rename_i te bv bx q D;split at e
   case isFalse=>simp at e
   rename_i hsz;split at e
   case h_2=>simp at e
   rename_i b l h hb;simp only [z6,zb,zg] at e;obtain ⟨⟨rfl,rfl⟩,rfl⟩:=e;simp only [hd,q,xbm D,hsz,if_true,xka hb]
 . simp at e
def indexAddrC (P:Program) (H:List Box) (t:TypeId) (x ix:AV):Option (Bool×AV) :=
 match xH7 P t,ix with
 | some ti,.int _ n=>match ti.d,x with
  | .slice e,.list sz xs=>match xH7 P e with
   | some te=>if te.sz=sz then some (decide (0<=n)&&decide (n<(xs.length:Int)),.eptr sz xs n.toNat 0) else none
   | none=>none
  | .slice e,.osl id ver off len=>match xH7 P e,getV H id ver with
   | some te,some (bv,bx)=>if te.sz=bx.sz then some (bv&&(decide (0<=n)&&decide (n<(len:Int))),.own id ver (off+n.toNat) 0) else none
   | _,_=>none
  | .array m e,.own id ver i j=>match xH7 P e,getV H id ver with
   | some te,some (bv,bx)=>some (bv&&(decide (0<=n)&&decide (n<(m:Int))),.own id ver i (j+n.toNat*te.sz))
   | _,_=>none
  | .array m e,.eptr sz xs i j=>match xH7 P e with
   | some te=>some (decide (0<=n)&&decide (n<(m:Int)),.eptr sz xs i (j+n.toNat*te.sz))
   | none=>none
  | _,_=>none
 | _,_=>none
def xsy {P:Program} {H:List Box} {t:TypeId} {x ix r:AV} (e:indexAddrC P H t x ix=some (true,r)):xIf P H t x ix=some r:=by
 unfold indexAddrC at e;unfold xIf;split at e
 case h_2=>simp at e
 rename_i ti k n J;simp only [J];split at e
 . rename_i e' sz xs hd;split at e
   case h_2=>simp at e
   rename_i te q;split at e
   case isFalse=>simp at e
   rename_i hsz;simp only [z6,zb,zg,zm] at e;obtain ⟨⟨h1,h2⟩,rfl⟩:=e;simp [hd,q,hsz,h1,h2]
 . rename_i e' id ver off len hd;split at e
   case h_2=>simp at e
   rename_i te bv bx q D;split at e
   case isFalse=>simp at e
   rename_i hsz;simp only [z6,zb,zg,zm] at e;obtain ⟨⟨rfl,h1,h2⟩,rfl⟩:=e;simp [hd,q,xbm D,hsz,h1,h2]
 . rename_i m e' id ver i j hd;split at e
   case h_2=>simp at e
   rename_i te bv bx q D;simp only [z6,zb,zg,zm] at e;obtain ⟨⟨rfl,h1,h2⟩,rfl⟩:=e;simp [hd,q,xbm D,h1,h2]
 . rename_i m e' sz xs i j hd;split at e
   case h_2=>simp at e
   rename_i te q;simp only [z6,zb,zg,zm] at e;obtain ⟨⟨h1,h2⟩,rfl⟩:=e;simp [hd,q,h1,h2]
 . simp at e
def fieldAddrC (P:Program) (H:List Box) (t:TypeId) (x:AV) (f:Nat):Option (Bool×AV) :=
 match x with
 | .own id ver i j=>match xH7 P t with
  | some ti=>match ti.d with
   | .struct fs=>match fs[f]? with
    | some fd=>match xH7 P fd.type with
     | some tf=>if tf.sz=0 then none else match getV H id ver with
      | some (bv,_)=>some (bv,.own id ver i (j+fd.offset))
      | none=>none
     | none=>none
    | none=>none
   | _=>none
  | none=>none
 | x=>match xIk P H t x f with
  | some r=>some (true,r)
  | none=>none
def xss {P:Program} {H:List Box} {t:TypeId} {x r:AV} {f:Nat} (e:fieldAddrC P H t x f=some (true,r)):xIk P H t x f=some r:=by
 unfold fieldAddrC at e;split at e
 . rename_i id ver i j;unfold xIk;split at e
   case h_2=>simp at e
   rename_i ti J;simp only [J];split at e
   case h_2=>simp at e
   rename_i fs hd;simp only [hd];split at e
   case h_2=>simp at e
   rename_i fd O;simp only [O];split at e
   case h_2=>simp at e
   rename_i tf q;simp only [q];split at e
   . simp at e
   rename_i hsz;rw [if_neg hsz];split at e
   case h_2=>simp at e
   rename_i bv bx D;simp only [z6,zb] at e;obtain ⟨rfl,rfl⟩:=e;simp only [xbm D]
 . split at e
   . rename_i r' hr;simp only [z6,zb,true_and] at e;rw [hr,e]
   . simp at e
def indexC (P:Program) (t:TypeId) (x ix:AV):Option (Bool×AV) :=
 match xH7 P t,ix with
 | some ti,.int _ n=>match ti.d,x with
  | .string,.str s=>some (decide (0<=n)&&decide (n<(s.length:Int)),.int .u8 ((s.getD n.toNat 0).toNat))
  | .array m e,.agg cs=>match absIndex P t x ix with
   | some r=>some (true,r)
   | none=>none
  | _,_=>none
 | _,_=>none
def xwG {P:Program} {t:TypeId} {x ix r:AV} (e:indexC P t x ix=some (true,r)):absIndex P t x ix=some r:=by unfold indexC absIndex at *;grind
def lenC (P:Program) (H:List Box) (t:TypeId) (x:AV):Option (Bool×AV) :=
 match xH7 P t with
 | some ti=>match ti.d,x with
  | .string,.str s=>some (true,.int .i64 s.length)
  | .slice _,.list _ xs=>some (true,.int .i64 xs.length)
  | .slice _,.nils=>some (true,.int .i64 0)
  | .slice _,.osl id ver _ len=>match getV H id ver with
   | some (bv,_)=>some (bv,.int .i64 len)
   | none=>none
  | _,_=>none
 | none=>none
def xA2 {P:Program} {H:List Box} {t:TypeId} {x r:AV} (e:lenC P H t x=some (true,r)):absLen P H t x=some r:=by
 unfold lenC at e;unfold absLen;split at e
 case h_2=>simp at e
 rename_i ti D;simp only [D];split at e
 . rename_i s hd;simp only [z6,zb,true_and] at e;simp only [hd,e]
 . rename_i s xs hd;simp only [z6,zb,true_and] at e;simp only [hd,e]
 . rename_i hd;simp only [z6,zb,true_and] at e;simp only [hd,e]
 . rename_i id ver off len hd;split at e
   case h_2=>simp at e
   rename_i bv bx q;simp only [z6,zb] at e;obtain ⟨rfl,rfl⟩:=e;simp only [hd,xbm q]
 . simp at e
def makeC (P:Program) (nid:Nat) (t:TypeId) (l c:AV):Option (Bool×AV×Option Box) :=
 match xH7 P t,l,c with
 | some ti,.int _ l,.int _ c=>match ti.d with
  | .slice e=>match xH7 P e with
   | some te=>if te.zero.okElem te.sz=true then
    some (decide (0<=l)&&(decide (l<=c)&&(decide ((te.bytes:Int)*c<=281474976710656)&&decide (c<=4611686018427387904))),.osl nid 0 0 l.toNat,some ⟨0,te.sz,e,List.replicate l.toNat te.zero,false,te.zero.pure⟩) else none
   | none=>none
  | _=>none
 | _,_,_=>none
def xzp {P:Program} {nid:Nat} {t:TypeId} {l c:AV} {r:AV×Option Box} (e:makeC P nid t l c=some (true,r)):absMake P nid t l c=some r:=by unfold makeC absMake at *;grind
def fopC (P:Program) (ls:TypeId->Bool) (ρ:Operand->AV) (H:List Box) (nid:Nat) (op:Op):Option (Bool×AV×Option Box) :=
 match op with
 | .load t a=>match xH7 P t with
  | some ti=>match loadAtC P ls t H ti (ρ a) with
   | some (b,x)=>some (b,x,none)
   | none=>none
  | none=>none
 | .nilCheck x=>match ρ x with
  | .own id ver i j=>match getV H id ver with
   | some (b,_)=>some (b,.own id ver i j,none)
   | none=>none
  | .eptr sz xs i j=>some (true,.eptr sz xs i j,none)
  | .func f cs=>match Nat.beq f vpF with
   | true=>none
   | false=>some (true,.func f cs,none)
  | _=>none
 | .binOp op t x y _=>match binC P op t (ρ x) (ρ y) with
  | some (b,r)=>some (b,r,none)
  | none=>none
 | .makeSlice t l c=>makeC P nid t (ρ l) (ρ c)
 | .slice t x lo hi mx=>match mx with
  | none=>match sliceC P H t (ρ x) (lo.map ρ) (hi.map ρ) with
   | some (b,r)=>some (b,r,none)
   | none=>none
  | some _=>none
 | .fieldAddr t x f=>match fieldAddrC P H t (ρ x) f with
  | some (b,r)=>some (b,r,none)
  | none=>none
 | .indexAddr t x ix=>match indexAddrC P H t (ρ x) (ρ ix) with
  | some (b,r)=>some (b,r,none)
  | none=>none
 | .index t x ix=>match indexC P t (ρ x) (ρ ix) with
  | some (b,r)=>some (b,r,none)
  | none=>none
 | .call c=>match c.callee with
  | .builtin b=>match b with
   | .len=>match c.argTypes.toList,c.args.toList.map ρ with
    | t::_,[x]=>match lenC P H t x with
     | some (b,r)=>some (b,r,none)
     | none=>none
    | _,_=>none
   | b=>match fop P ρ H nid (.call c) with
    | some (x,nb)=>some (true,x,nb)
    | none=>none
  | _=>none
 | op=>match fop P ρ H nid op with
  | some (x,nb)=>some (true,x,nb)
  | none=>none
def xtY {P:Program} {ls:TypeId->Bool} {ρ:Operand->AV} {H:List Box} {nid:Nat} {op:Op} {r:AV×Option Box} (e:fopC P ls ρ H nid op=some (true,r)):fop P ρ H nid op=some r:=by
 unfold fopC at e;split at e
 . rename_i t a;split at e
   case h_2=>simp at e
   rename_i ti q;split at e
   case h_2=>simp at e
   rename_i b x hx;simp only [z6,zb] at e;obtain ⟨rfl,rfl⟩:=e;simp only [fop,q,xqi hx]
 . rename_i x;split at e
   . rename_i id ver i j hx;split at e
     case h_2=>simp at e
     rename_i b bx hb;simp only [z6,zb] at e;obtain ⟨rfl,rfl⟩:=e;simp only [fop,hx,xbm hb]
   . rename_i hx;simp only [z6,zb,true_and] at e;simp only [fop,hx,e]
   . rename_i hx;split at e
     . simp at e
     rename_i D;simp only [z6,zb,true_and] at e;simp only [fop,hx,D,e]
   . simp at e
 . split at e
   case h_2=>simp at e
   rename_i b x hx;simp only [z6,zb] at e;obtain ⟨rfl,rfl⟩:=e;simp only [fop,xAk hx]
 . simp only [fop];exact xzp e
 . split at e
   case h_2=>simp at e
   split at e
   case h_2=>simp at e
   rename_i b x hx;simp only [z6,zb] at e;obtain ⟨rfl,rfl⟩:=e;simp only [fop,xwS hx]
 . split at e
   case h_2=>simp at e
   rename_i b x hx;simp only [z6,zb] at e;obtain ⟨rfl,rfl⟩:=e;simp only [fop,xss hx]
 . split at e
   case h_2=>simp at e
   rename_i b x hx;simp only [z6,zb] at e;obtain ⟨rfl,rfl⟩:=e;simp only [fop,xsy hx]
 . split at e
   case h_2=>simp at e
   rename_i b x hx;simp only [z6,zb] at e;obtain ⟨rfl,rfl⟩:=e;simp only [fop,xwG hx]
 . rename_i c;split at e
   case h_2=>simp at e
   rename_i b hc;split at e
   . split at e
     case h_2=>simp at e
     rename_i t ts x h1 h2;split at e
     case h_2=>simp at e
     rename_i b y hx;simp only [z6,zb] at e;obtain ⟨rfl,rfl⟩:=e;simp only [fop,hc,h1,h2,xA2 hx]
   . split at e
     case h_2=>simp at e
     rename_i x nb hx;simp only [z6,zb,true_and] at e;rw [hx,e]
 . split at e
   case h_2=>simp at e
   rename_i x nb hx;simp only [z6,zb,true_and] at e;rw [hx,e]
def elemsC (H:List Box) (sz:Nat):AV->Option (Bool×List AV×Bool)
 | .nils=>some (true,[],true)
 | .list sz' xs=>if sz'=sz then some (true,xs,true) else none
 | .osl id ver off len=>match getV H id ver with
  | some (bv,bx)=>if bx.sz=sz/\isC bx.ty=false then some (bv&&decide (off+len<=bx.xs.length),(bx.xs.drop off).take len,bx.pm) else none
  | none=>none
 | _=>none
def xwz {H:List Box} {sz:Nat} {x:AV} {ys:List AV×Bool} (e:elemsC H sz x=some (true,ys)):xIK H sz x=some ys:=by
 unfold elemsC at e;unfold xIK;split at e
 . simp only [z6,zb,true_and] at e;simp only [e]
 . split at e
   . rename_i h;simp only [z6,zb,true_and] at e;simp only [h,if_true,e]
   . simp at e
 . split at e
   case h_2=>simp at e
   rename_i bv bx hb;split at e
   case isFalse=>simp at e
   rename_i hs;simp only [z6,zb,zg,zm] at e;obtain ⟨⟨rfl,h1⟩,rfl⟩:=e;simp [xbm hb,hs.1,hs.2,h1]
 . simp at e
def M.byteAVs (s:List UInt8):List AV:=s.map fun (u:UInt8)=>.int .u8 u.toNat
def srcC (P:Program) (H:List Box) (t tt e:TypeId) (sz:Nat) (x:AV):Option (Bool×List AV×Bool) :=
 if t=tt then elemsC H sz x else
  match xH7 P tt,xH7 P e,x with
  | some tj,some te,.str s=>match tj.d,te.d with
   | .string,.int .u8=>if te.sz=1 then some (true,M.byteAVs s,true) else none
   | _,_=>none
  | _,_,_=>none
def appendC (P:Program) (H:List Box) (t tt:TypeId) (s x:AV):Option (Bool×AV×List Box) :=
 match xH7 P t with
 | some ti=>match ti.d with
  | .slice e=>match xH7 P e with
   | some te=>if 0<te.sz/\te.zero.okElem te.sz=true then match srcC P H t tt e te.sz x with
    | some (by',ys,pm)=>match s with
     | .nils=>some (by'&&(decide (ys.length*te.bytes<=140737488355328)&&decide (ys.length<=xIX)),.osl H.length 0 0 ys.length,H++[⟨0,te.sz,e,ys,false,pm⟩])
     | .osl (.b id) ver off len=>match getV H id ver with
      | some (bv,bx)=>if bx.frz=false/\bx.sz=te.sz/\bx.ty=e then
       some (by'&&(bv&&((off==0)&&((len==bx.xs.length)&&(decide ((len+ys.length)*te.bytes<=140737488355328)&&decide (len+ys.length<=xIX))))),.osl id (ver+1) 0 (len+ys.length),H.set id ⟨ver+1,te.sz,e,bx.xs++ys,false,bx.pm&&pm⟩) else none
      | none=>none
     | _=>none
    | none=>none else none
   | none=>none
  | _=>none
 | none=>none
def xn3 {P:Program} {H:List Box} {t tt e:TypeId} {sz:Nat} {x:AV} {r:List AV×Bool} (h:srcC P H t tt e sz x=some (true,r)):absSrc P H t tt e sz x=some r:=by
 unfold srcC at h;unfold absSrc;split at h
 . rename_i q;rw [if_pos q];exact xwz h
 . rename_i q;rw [if_neg q];split at h
   case h_2=>simp at h
   rename_i tj te s h1 h2;split at h
   case h_2=>simp at h
   rename_i h3 h4;split at h
   case isFalse=>simp at h
   rename_i h5;simp only [z6,zb,true_and,M.byteAVs] at h;simp only [h1,h2,h3,h4,h5,if_true,h]
def xp0 {P:Program} {H:List Box} {t tt:TypeId} {s x:AV} {r:AV×List Box} (e:appendC P H t tt s x=some (true,r)):xJb P H t tt s x=some r:=by
 unfold appendC at e;unfold xJb;split at e
 case h_2=>simp at e
 rename_i ti D;simp only [D];split at e
 case h_2=>simp at e
 rename_i e' hd;simp only [hd];split at e
 case h_2=>simp at e
 rename_i te q;simp only [q];split at e
 case isFalse=>simp at e
 rename_i hz;split at e
 case h_2=>simp at e
 rename_i b ys pm hy;split at e
 . simp only [z6,zb,zg,zm] at e;obtain ⟨⟨rfl,h1,h2⟩,rfl⟩:=e;simp only [xn3 hy,absApp];rw [if_pos ⟨hz.1,h1,h2,hz.2⟩]
 . rename_i id ver off len;split at e
   case h_2=>simp at e
   rename_i bv bx hb;split at e
   case isFalse=>simp at e
   rename_i hf;simp only [z6,zb,zg,zm,beq_iff_eq] at e;obtain ⟨⟨rfl,rfl,h1,h2,h3,h4⟩,rfl⟩:=e;simp only [xn3 hy,absApp,xbm hb];rw [if_pos ⟨h1,h2,hf.1,hf.2.1,hf.2.2,hz.1,h3,h4,hz.2⟩]
 . simp at e
def storeC (P:Program) (H:List Box) (t:TypeId) (a v:AV):Option (Bool×List Box) :=
 match xH7 P t,a with
 | some ti,.own (.b id) ver i j=>match getV H id ver with
  | some (bv,bx)=>if bx.frz=false/\v.okElem ti.sz=true/\j+ti.sz<=bx.sz/\isC bx.ty=false then
   some (bv&&decide (i<bx.xs.length),H.set id ⟨ver,bx.sz,bx.ty,bx.xs.set i (putCells (bx.xs.getD i .top) j ti.sz bx.sz v),false,bx.pm&&v.pure⟩) else none
  | none=>none
 | _,_=>none
def xwX {P:Program} {H:List Box} {t:TypeId} {a v:AV} {r:List Box} (e:storeC P H t a v=some (true,r)):absStore P H t a v=some r:=by
 unfold storeC at e;unfold absStore;split at e
 case h_2=>simp at e
 rename_i ti id ver i j q;simp only [q];split at e
 case h_2=>simp at e
 rename_i bv bx hb;split at e
 case isFalse=>simp at e
 rename_i hc;simp only [z6,zb,zg,zm] at e;obtain ⟨⟨rfl,h1⟩,rfl⟩:=e;simp only [xbm hb,xoH h1];rw [if_pos hc]
def xJa (x:AV) (n:Nat):Bool:=match x with
 | .int _ l=>decide (l.toNat<n)
 | _=>false
def adoptC (P:Program) (H:List Box) (t:TypeId) (a v:AV):Option (Bool×List Box) :=
 match xH7 P t,a,v with
 | some ti,.own (.b n) ver i j,.osl (.b id) ver2 off len=>match H[n]?,H[id]? with
  | some bx,some b2=>if ti.sz=1/\bx.frz=false/\xH9 bx.ty j=true/\bx.pm=true/\j<bx.sz/\b2.frz=false/\b2.pm=true/\isC b2.ty=false/\b2.ty=rowTy bx.ty/\xIa bx.ty=false then
   some ((bx.ver==ver)&&((b2.ver==ver2)&&(decide (i<bx.xs.length)&&(((bx.xs.getD i .top).cells.length==bx.sz)&&((off==0)&&((len==b2.xs.length)&&xJa ((bx.xs.getD i .top).cells.getD j .top) len))))),
    (H.set id ⟨ver2+1,b2.sz,b2.ty,[],false,true⟩).set n (xIg bx ver i j (.list b2.sz b2.xs))) else none
  | _,_=>none
 | _,_,_=>none
def xwr {P:Program} {H:List Box} {t:TypeId} {a v:AV} {r:List Box} (e:adoptC P H t a v=some (true,r)):absAdopt P H t a v=some r:=by
 unfold adoptC at e;unfold absAdopt;split at e
 case h_2=>simp at e
 rename_i ti n ver i j id q off len D;split at e
 case h_2=>simp at e
 rename_i bx b2 hb J;split at e
 case isFalse=>simp at e
 rename_i hc;simp only [z6,zb,zg,zm,beq_iff_eq] at e;obtain ⟨⟨h1,h2,h3,h4,h5,h6,h7⟩,rfl⟩:=e;have g1:xIb H (.b n) ver=some bx:=by unfold xIb;simp only [getB,hb];exact if_pos ⟨h1,hc.2.2.2.2.2.2.2.2.2⟩
 have g2:xIb H (.b id) q=some b2:=by unfold xIb;simp only [getB,J];exact if_pos ⟨h2,xaH hc.2.2.2.2.2.2.2.1⟩
 have g3:∃ l0,deadLen ((bx.xs.getD i .top).cells.getD j .top)=some l0/\l0<len:=by
  unfold xJa at h7;split at h7
  . rename_i kk l hl;rw [hl];exact ⟨_,rfl,by simpa using h7⟩
  . simp at h7
 obtain ⟨l0,g3,g4⟩:=g3;simp only [D,g1,g2,g3];rw [if_pos ⟨hc.1,hc.2.1,hc.2.2.1,hc.2.2.2.1,hc.2.2.2.2.1,h3,h4,hc.2.2.2.2.2.1,hc.2.2.2.2.2.2.1,hc.2.2.2.2.2.2.2.1,hc.2.2.2.2.2.2.2.2.1,h5,h6,g4⟩]
def appCC (P:Program) (H:List Box) (t tt:TypeId) (s x:AV):Option (Bool×AV×List Box) :=
 match xH7 P t,s with
 | some ti,.osl (.b n) ver off len=>match ti.d with
  | .slice e=>match xH7 P e,H[n]? with
   | some te,some bx=>match srcC P H t tt e te.sz x with
    | some (by',ys,pm)=>if bx.frz=false/\bx.sz=te.sz/\isC bx.ty=true/\rty bx.ty=e/\bx.pm=true/\pm=true/\xIe bx.ty<te.sz/\0<te.sz/\te.zero.okElem te.sz=true/\0<ys.length/\ys.all (fun y=>isNils (y.cells.getD (xIe bx.ty) .top))=true/\xIa bx.ty=false then
     some (by'&&((bx.ver==ver)&&((off==0)&&((len==bx.xs.length)&&(decide ((len+ys.length)*te.bytes<=140737488355328)&&decide (len+ys.length<=xIX))))),
      .osl (.b n) (ver+1) 0 (len+ys.length),H.set n ⟨ver+1,te.sz,bx.ty,bx.xs++ys.map (newRow bx.ty te.sz),false,true⟩) else none
    | none=>none
   | _,_=>none
  | _=>none
 | _,_=>none
def xyW {P:Program} {H:List Box} {t tt:TypeId} {s x:AV} {r:AV×List Box} (h:appCC P H t tt s x=some (true,r)):absAppC P H t tt s x=some r:=by
 unfold appCC at h;unfold absAppC;split at h
 case h_2=>simp at h
 rename_i ti n ver off len V;split at h
 case h_2=>simp at h
 rename_i e hd;split at h
 case h_2=>simp at h
 rename_i te bx J hb;split at h
 case h_2=>simp at h
 rename_i W ys pm O;split at h
 case isFalse=>simp at h
 rename_i hc;simp only [z6,zb,zg,zm,beq_iff_eq] at h;obtain ⟨⟨rfl,h1,h2,h3,h4,h5⟩,rfl⟩:=h;obtain ⟨c1,c2,c3,c4,c5,c6,c7,c8,c9,Q,D,q⟩:=hc;have g1:xIb H (.b n) ver=some bx:=by unfold xIb;simp only [getB,hb];exact if_pos ⟨h1,q⟩
 simp only [V,hd,J,g1,xn3 O];rw [if_pos ⟨h2,h3,c1,c2,c3,c4,c5,c6,c7,c8,h4,h5,c9,Q,D⟩]
def takeC (P:Program) (H:List Box) (t tt:TypeId) (s x:AV):Option (Bool×AV×List Box) :=
 match s with
 | .osl (.r n i j) ver off len=>match H[n]? with
  | some bx=>if xH9 bx.ty j=true/\bx.pm=true/\j<bx.sz then
   match appendC P (H.set n (xIg bx bx.ver i j (.int .i64 ((bx.xs.getD i .top).cells.getD j .top).toList.length))++[⟨0,rowSz bx.ty,rowTy bx.ty,((bx.xs.getD i .top).cells.getD j .top).toList,bx.frz,true⟩]) t tt (.osl (.b H.length) 0 0 len) x with
   | some (b,r)=>some (decide (i<bx.xs.length)&&(xIO (rowSz bx.ty) ((bx.xs.getD i .top).cells.getD j .top)&&(((bx.xs.getD i .top).cells.length==bx.sz)&&((ver==2*((bx.xs.getD i .top).cells.getD j .top).toList.length)&&((off==0)&&((len==((bx.xs.getD i .top).cells.getD j .top).toList.length)&&b))))),r)
   | none=>none else none
  | none=>none
 | _=>none
def xzM {P:Program} {H:List Box} {t tt:TypeId} {s x:AV} {r:AV×List Box} (h:takeC P H t tt s x=some (true,r)):absTake P H t tt s x=some r:=by
 unfold takeC at h;unfold absTake;split at h
 case h_2=>simp at h
 rename_i n i j ver off len;split at h
 case h_2=>simp at h
 rename_i bx hb;split at h
 case isFalse=>simp at h
 rename_i hc;split at h
 case h_2=>simp at h
 rename_i b r' ha;simp only [z6,zb,zg,zm,beq_iff_eq] at h;obtain ⟨⟨h1,h2,h3,h4,h5,h6,rfl⟩,rfl⟩:=h;obtain ⟨ys,hy⟩:=xfU h2;rw [hy] at ha h4 h6;simp only [AV.toList] at ha h4 h6;simp only [hb,hy];rw [if_pos ⟨hc.1,hc.2.1,hc.2.2,h1,h3,h4,h5,h6⟩];exact xp0 ha
def lookC (P:Program) (H:List Box) (t:TypeId) (m k:AV) (c:Bool):Option (Bool×AV):=match m,k,P.underlying t with
 | .own (.b n) ver _ _,.str s,some (.map kt et)=>match P.underlying kt,xH7 P et,H[n]?,shapesOf P false 8 et with
  | some .string,some te,some bx,[z]=>if xIa bx.ty=true/\xH9 bx.ty 0=false/\xH9 bx.ty 1=false/\bx.sz=2/\bx.pm=true then
   some ((bx.ver==ver)&&(decide (s.length<=xIX)&&xH6 z (xIq te.zero bx.xs s)),match c with
    | true=>.tuple [eta1 z (xIq te.zero bx.xs s),.bool (xID bx.xs s)]
    | false=>eta1 z (xIq te.zero bx.xs s)) else none
  | _,_,_,_=>none
 | _,_,_=>none
def xzn {P:Program} {H:List Box} {t:TypeId} {m k r:AV} {c:Bool} (h:lookC P H t m k c=some (true,r)):absLookM P H t m k c=some r:=by
 unfold lookC at h;unfold absLookM;split at h
 case h_2=>simp at h
 rename_i n ver i j s kt et q;simp only [q];split at h
 case h_2=>simp at h
 rename_i te bx z J D hb hz;split at h
 case isFalse=>simp at h
 rename_i hc;simp only [z6,zb,zg,zm,beq_iff_eq] at h;obtain ⟨⟨h1,h2,h3⟩,rfl⟩:=h;have g:getMap H n ver=some bx:=by unfold getMap;simp only [hb];exact if_pos ⟨h1,hc⟩
 simp only [J,D,g,xqJ h3];exact if_pos h2
def putMC (P:Program) (H:List Box) (t:TypeId) (m k v:AV):Option (Bool×List Box):=match m,k,P.underlying t with
 | .own (.b n) ver _ _,.str s,some (.map kt _)=>match P.underlying kt,H[n]? with
  | some .string,some bx=>if xIa bx.ty=true/\xH9 bx.ty 0=false/\xH9 bx.ty 1=false/\bx.sz=2/\bx.pm=true/\bx.frz=false/\v.one=true/\v.pure=true then
   some ((bx.ver==ver)&&(decide (bx.xs.length<xIX)&&decide (s.length<=xIX)),H.set n ⟨ver,2,bx.ty,xIo bx.xs s v,false,true⟩) else none
  | _,_=>none
 | _,_,_=>none
def xzu {P:Program} {H:List Box} {t:TypeId} {m k v:AV} {r:List Box} (h:putMC P H t m k v=some (true,r)):absPutM P H t m k v=some r:=by
 unfold putMC at h;unfold absPutM;split at h
 case h_2=>simp at h
 rename_i n ver i j s kt et q;simp only [q];split at h
 case h_2=>simp at h
 rename_i bx D hb;split at h
 case isFalse=>simp at h
 rename_i hc;obtain ⟨c1,c2,c3,c4,c5,c6,c7,c8⟩:=hc;simp only [z6,zb,zg,zm,beq_iff_eq] at h;obtain ⟨⟨h1,h2,h3⟩,rfl⟩:=h;have g:getMap H n ver=some bx:=by unfold getMap;simp only [hb];exact if_pos ⟨h1,c1,c2,c3,c4,c5⟩
 simp only [D,g];exact if_pos ⟨c6,c7,c8,h2,h3⟩
def lookLC (P:Program) (H:List Box) (t:TypeId) (m k:AV) (c:Bool):Option (Bool×AV):=match m,k,P.underlying t with
 | .own (.b n) ver _ _,.str s,some (.map kt et)=>match P.underlying kt,P.underlying et,xH7 P et,H[n]? with
  | some .string,some (.slice e2),some te,some bx=>match te.zero,xH7 P e2 with
   | .nils,some te2=>if xIa bx.ty=true/\xH9 bx.ty 0=false/\xH9 bx.ty 1=false/\bx.sz=2/\bx.pm=true then
    some ((bx.ver==ver)&&(decide (s.length<=xIX)&&(!xID bx.xs s || xIO te2.sz (xIq .nils bx.xs s))),match c with
     | true=>.tuple [.list te2.sz (lookL bx.xs s),.bool (xID bx.xs s)]
     | false=>.list te2.sz (lookL bx.xs s)) else none
   | _,_=>none
  | _,_,_,_=>none
 | _,_,_=>none
def xrc {P:Program} {H:List Box} {t:TypeId} {m k r:AV} {c:Bool} (h:lookLC P H t m k c=some (true,r)):absLookL P H t m k c=some r:=by unfold lookLC absLookL getMap at *;grind
def xwH {P:Program} {H:List Box} {t:TypeId} {m k:AV} {c:Bool} (h:lookLC P H t m k c=none):absLookL P H t m k c=none:=by
 cases hl:absLookL P H t m k c with
 | none=>rfl
 | some r =>
  exfalso;unfold absLookL at hl;split at hl
  case h_2=>simp at hl
  rename_i n ver i j s kt et D;split at hl
  case h_2=>simp at hl
  rename_i e2 te bx Q V O J;split at hl
  case h_2=>simp at hl
  rename_i W hz q;obtain ⟨b1,b2,b3⟩:=xjc J;unfold lookLC at h;simp only [D,Q,V,O,b1,hz,q,b3] at h;simp at h
def lookRC (P:Program) (H:List Box) (t:TypeId) (m k:AV) (c:Bool):Option (Bool×Bool×Bool×AV×AV):=match m,k,P.underlying t with
 | .own (.b n) ver _ _,.str s,some (.map kt et)=>match P.underlying kt,xH7 P et,H[n]? with
  | some .string,some te,some bx=>if xIa bx.ty=true/\xH9 bx.ty 0=false/\xH9 bx.ty 1=true/\bx.sz=2/\bx.pm=true then
   some ((bx.ver==ver)&&decide (s.length<=xIX),xID bx.xs s,xIO (rowSz bx.ty) ((bx.xs.getD (putIx bx.xs s) .top).cells.getD 1 .top),
    match c with
    | true=>.tuple [.osl (.r n (putIx bx.xs s) 1) (2*((bx.xs.getD (putIx bx.xs s) .top).cells.getD 1 .top).toList.length) 0 ((bx.xs.getD (putIx bx.xs s) .top).cells.getD 1 .top).toList.length,.bool true]
    | false=>.osl (.r n (putIx bx.xs s) 1) (2*((bx.xs.getD (putIx bx.xs s) .top).cells.getD 1 .top).toList.length) 0 ((bx.xs.getD (putIx bx.xs s) .top).cells.getD 1 .top).toList.length,
    match c with
    | true=>.tuple [te.zero,.bool false]
    | false=>te.zero) else none
  | _,_,_=>none
 | _,_,_=>none
def xrd {P:Program} {H:List Box} {t:TypeId} {m k x y:AV} {c O b1:Bool} (h:lookRC P H t m k c=some (true,O,b1,x,y)):absLookL P H t m k c=none/\absLookM P H t m k c=none/\((O=true->b1=true->absLookR P H t m k c=some x)/\(O=false->absLookR P H t m k c=some y)):=by
 unfold lookRC at h;split at h
 case h_2=>simp at h
 rename_i n ver i j s kt et q;split at h
 case h_2=>simp at h
 rename_i te bx J D hb;split at h
 case isFalse=>simp at h
 rename_i hc;obtain ⟨c1,c2,c3,c4,c5⟩:=hc;simp only [z6,zb,zg,zm,beq_iff_eq] at h;obtain ⟨⟨h1,h2⟩,rfl,rfl,rfl,rfl⟩:=h;have g:getMapR H n ver=some bx:=by unfold getMapR;simp only [hb];exact if_pos ⟨h1,c1,c2,c3,c4,c5⟩
 have g0:getMap H n ver=none:=by
  unfold getMap;simp only [hb];exact if_neg fun e=>by have:=e.2.2.2.1;rw [c3] at this;cases this
 refine ⟨?_,?_,fun hh hr=>?_,fun hh=>?_⟩
 . cases hl:absLookL P H t (.own (.b n) ver i j) (.str s) c with
   | none=>rfl
   | some r =>
    obtain ⟨n',Q,i',j',bx',e,h'⟩:=xpu hl;simp only [AV.own.injEq,Id.b.injEq] at e;obtain ⟨rfl,rfl,_,_⟩:=e;rw [g0] at h';cases h'
 . unfold absLookM;simp only [q,J,D,g0]
 . unfold absLookR;simp only [q,J,D,g];rw [if_pos h2];unfold xID at hh;cases hm:mapIx bx.xs s with
   | none=>rw [hm] at hh;cases hh
   | some i =>
    have hp:putIx bx.xs s=i:=by unfold putIx;rw [hm]
    rw [hp] at hr |-;obtain ⟨ys,hy⟩:=xfU hr;cases c<;>(dsimp only;rw [hy];rfl)
 . unfold absLookR;simp only [q,J,D,g];rw [if_pos h2];unfold xID at hh;cases hm:mapIx bx.xs s with
   | some i=>rw [hm] at hh;cases hh
   | none=>cases c<;>rfl
def forkC (P:Program) (ρ:Operand->AV) (H:List Box) (op:Op):Option (Bool×Bool×Bool×AV×AV):=match op with
 | .lookup t m k c=>lookRC P H t (ρ m) (ρ k) c
 | _=>none
def xzg {P:Program} {ρ:Operand->AV} {H:List Box} {op:Op} {x y:AV} {q b1:Bool} (h:forkC P ρ H op=some (true,q,b1,x,y)):(q=true->b1=true->iop P ρ H op=some (x,H))/\(q=false->iop P ρ H op=some (y,H)):=by
 unfold forkC at h;split at h
 case h_2=>simp at h
 rename_i t m k c;obtain ⟨h9,h0,h1,h2⟩:=xrd h;exact ⟨fun a b=>by simp only [iop,h9,h0,h1 a b],fun a=>by simp only [iop,h9,h0,h2 a]⟩
def xzh {P:Program} {ρ:Operand->AV} {H:List Box} {nid:Nat} {op:Op} {x y:AV} {q b1:Bool} (h:forkC P ρ H op=some (true,q,b1,x,y)):(q=true->b1=true->fopE P ρ H nid op=some (x,none))/\(q=false->fopE P ρ H nid op=some (y,none)):=by
 unfold forkC at h;split at h
 case h_2=>simp at h
 rename_i t m k c;obtain ⟨h9,_,h1,h2⟩:=xrd h;exact ⟨fun a b=>by simp only [fopE,h9,h1 a b],fun a=>by simp only [fopE,h9,h2 a]⟩
def putRC (P:Program) (H:List Box) (t:TypeId) (m k v:AV):Option (Bool×List Box):=match m,k,v,P.underlying t with
 | .own (.b n) ver _ _,.str s,.osl (.b id) ver2 off len,some (.map kt _)=>match P.underlying kt,H[n]?,H[id]? with
  | some .string,some bx,some b2=>if xIa bx.ty=true/\xH9 bx.ty 0=false/\xH9 bx.ty 1=true/\bx.sz=2/\bx.pm=true/\bx.frz=false/\b2.frz=false/\b2.pm=true/\isC b2.ty=false/\b2.ty=rowTy bx.ty then
   some ((bx.ver==ver)&&((b2.ver==ver2)&&((off==0)&&((len==b2.xs.length)&&(decide (bx.xs.length<xIX)&&(decide (s.length<=xIX)&&deadR bx.xs s len))))),
    (H.set id ⟨ver2+1,b2.sz,b2.ty,[],false,true⟩).set n ⟨ver,2,bx.ty,xIo bx.xs s (.list b2.sz b2.xs),false,true⟩) else none
  | _,_,_=>none
 | _,_,_,_=>none
def xzw {P:Program} {H:List Box} {t:TypeId} {m k v:AV} {r:List Box} (h:putRC P H t m k v=some (true,r)):absPutM P H t m k v=none/\absPutR P H t m k v=some r:=by
 unfold putRC at h;split at h
 case h_2=>simp at h
 rename_i n ver i j s id J off len kt et q;split at h
 case h_2=>simp at h
 rename_i bx b2 D hb Q;split at h
 case isFalse=>simp at h
 rename_i hc;obtain ⟨c1,c2,c3,c4,c5,c6,c7,c8,c9,O⟩:=hc;simp only [z6,zb,zg,zm,beq_iff_eq] at h;obtain ⟨⟨h1,h2,h3,h4,h5,h6,h7⟩,rfl⟩:=h;have g:getMapR H n ver=some bx:=by unfold getMapR;simp only [hb];exact if_pos ⟨h1,c1,c2,c3,c4,c5⟩
 have g0:getMap H n ver=none:=by
  unfold getMap;simp only [hb];exact if_neg fun e=>by have:=e.2.2.2.1;rw [c3] at this;cases this
 have g2:xIb H (.b id) J=some b2:=by unfold xIb;simp only [getB,Q];exact if_pos ⟨h2,xaH c9⟩
 constructor
 . unfold absPutM;simp only [q,D,g0]
 . unfold absPutR;simp only [q,D,g,g2];exact if_pos ⟨c6,c7,c8,c9,O,h3,h4,h5,h6,h7⟩
def iopC (P:Program) (ρ:Operand->AV) (H:List Box) (op:Op):Option (Bool×AV×List Box) :=
 match op with
 | .store t a v=>match mkd H (ρ a) with
  | true=>match adoptC P H t (ρ a) (ρ v) with
   | some (b,H')=>some (b,.tuple [],H')
   | none=>none
  | false=>match storeC P H t (ρ a) (ρ v) with
   | some (b,H')=>some (b,.tuple [],H')
   | none=>none
 | .call c=>match c.callee with
  | .builtin b=>match b,c.argTypes.toList,c.args.toList with
   | .append,[t,t'],[s,x]=>match isRowRef (ρ s) with
    | true=>takeC P H t t' (ρ s) (ρ x)
    | false=>match mkd H (ρ s) with
     | true=>appCC P H t t' (ρ s) (ρ x)
     | false=>appendC P H t t' (ρ s) (ρ x)
   | _,_,_=>none
  | _=>none
 | .lookup t m k c=>match lookLC P H t (ρ m) (ρ k) c with
  | some (b,r)=>some (b,r,H)
  | none=>match lookC P H t (ρ m) (ρ k) c with
   | some (b,r)=>some (b,r,H)
   | none=>none
 | .mapUpdate t m k v=>match putMC P H t (ρ m) (ρ k) (ρ v) with
  | some (b,H')=>some (b,.tuple [],H')
  | none=>match putRC P H t (ρ m) (ρ k) (ρ v) with
   | some (b,H')=>some (b,.tuple [],H')
   | none=>none
 | .makeMap t r=>match r with
  | none=>match absMakeM P H t with
   | some r=>some (true,r)
   | none=>none
  | some _=>none
 | _=>none
def xt1 {P:Program} {ρ:Operand->AV} {H:List Box} {op:Op} {r:AV×List Box} (e:iopC P ρ H op=some (true,r)):iop P ρ H op=some r:=by
 unfold iopC at e;unfold iop;split at e
 . split at e
   . rename_i hk;split at e
     case h_2=>simp at e
     rename_i b H' h;simp only [z6,zb] at e;obtain ⟨rfl,rfl⟩:=e;simp only [hk,xwr h]
   . rename_i hk;split at e
     case h_2=>simp at e
     rename_i b H' h;simp only [z6,zb] at e;obtain ⟨rfl,rfl⟩:=e;simp only [hk,xwX h]
 . rename_i c;split at e
   case h_2=>simp at e
   rename_i b hb;simp only [hb];split at e
   . rename_i t t' s x h1 h2;simp only [h1,h2];split at e
     . rename_i hk;simp only [hk];exact xzM e
     . rename_i hk;simp only [hk];split at e
       . rename_i q;simp only [q];exact xyW e
       . rename_i q;simp only [q];exact xp0 e
   . simp at e
 . split at e
   . rename_i b r' h;simp only [z6,zb] at e;obtain ⟨rfl,rfl⟩:=e;simp only [xrc h]
   rename_i hl;split at e
   case h_2=>simp at e
   rename_i b r' h;simp only [z6,zb] at e;obtain ⟨rfl,rfl⟩:=e;simp only [xwH hl,xzn h]
 . split at e
   . rename_i b H' h;simp only [z6,zb] at e;obtain ⟨rfl,rfl⟩:=e;simp only [xzu h]
   . split at e
     case h_2=>simp at e
     rename_i b H' h;simp only [z6,zb] at e;obtain ⟨rfl,rfl⟩:=e;obtain ⟨h0,h1⟩:=xzw h;simp only [h0,h1]
 . split at e
   . split at e
     case h_2=>simp at e
     rename_i r' h;simp only [z6,zb,true_and] at e;simp only [h,e]
   . simp at e
 . simp at e
def fopEC (P:Program) (ρ:Operand->AV) (H:List Box) (nid:Nat) (op:Op):Option (Bool×AV×Option Box) :=
 match op with
 | .buildSlice t len parts=>match fopE P ρ H nid (.buildSlice t len parts) with
  | some (x,nb)=>some (true,x,nb)
  | none=>none
 | .call c=>match c.callee with
  | .builtin b=>match b,c.argTypes.toList,c.args.toList with
   | .append,[t,t'],[s,x]=>match ρ s with
    | .empt=>match xH7 P t with
     | some ti=>match ti.d with
      | .slice e=>match xH7 P e with
       | some te=>match srcC P H t t' e te.sz (ρ x) with
        | some (by',ys,pm)=>if 0<te.sz/\te.zero.okElem te.sz=true then
         some (by'&&(decide (ys.length*te.bytes<=140737488355328)&&decide (ys.length<=xIX)),.osl nid 0 0 ys.length,some ⟨0,te.sz,e,ys,false,pm⟩) else none
        | none=>none
       | none=>none
      | _=>none
     | none=>none
    | _=>none
   | _,_,_=>none
  | _=>none
 | .lookup t m k c=>match lookLC P H t (ρ m) (ρ k) c with
  | some (b,r)=>some (b,r,none)
  | none=>none
 | _=>none
def xze {P:Program} {ρ:Operand->AV} {H:List Box} {nid:Nat} {op:Op} {r:AV×Option Box} (h:fopEC P ρ H nid op=some (true,r)):fopE P ρ H nid op=some r:=by
 unfold fopEC at h;split at h
 . split at h
   case h_2=>simp at h
   rename_i x nb hx;simp only [z6,zb,true_and] at h;rw [hx,h]
 . rename_i c;split at h
   case h_2=>simp at h
   rename_i b hb;split at h
   case h_2=>simp at h
   rename_i t t' s x h1 h2;split at h
   case h_2=>simp at h
   rename_i hs;split at h
   case h_2=>simp at h
   rename_i ti J;split at h
   case h_2=>simp at h
   rename_i e hd;split at h
   case h_2=>simp at h
   rename_i te q;split at h
   case h_2=>simp at h
   rename_i O ys pm D;split at h
   case isFalse=>simp at h
   rename_i hc;simp only [z6,zb,zg,zm] at h;obtain ⟨⟨rfl,g1,g2⟩,rfl⟩:=h;simp only [fopE,hb,h1,h2,absAppE,hs,J,hd,q,xn3 D];exact if_pos ⟨hc.1,g1,g2,hc.2⟩
 . split at h
   case h_2=>simp at h
   rename_i b r' hl;simp only [z6,zb] at h;obtain ⟨rfl,rfl⟩:=h;simp only [fopE,xrc hl]
 . simp at h
def fopBC (ρ:Operand->AV) (op:Op):Option (Bool×AV):=match op with
 | .box _ x=>match (ρ x).cells.all AV.one with
  | true=>some ((ρ x).pure,.eptr (ρ x).cells.length [ρ x] 0 0)
  | false=>none
 | _=>none
def xzd {P:Program} {ρ:Operand->AV} {H:List Box} {nid:Nat} {op:Op} {x:AV} (h:fopBC ρ op=some (true,x)):fopE P ρ H nid op=some (x,none):=by unfold fopBC fopE at *;grind
def frzOp (ls:TypeId->Bool) (op:Op):Bool:=match op with
 | .box e _=>ls (1000000+e)
 | _=>false
end Go.Sim
end
