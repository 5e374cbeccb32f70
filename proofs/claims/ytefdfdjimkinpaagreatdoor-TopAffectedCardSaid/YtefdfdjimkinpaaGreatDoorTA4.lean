/- Part 4 of the proof of the law. -/
import Derived.Test.YtefdfdjimkinpaaGreatDoorTA3
import Derived.RangeFuncRecord
import Derived.OrdersIn
import Derived.TacticsIn
set_option linter.defProp false
set_option linter.unusedVariables false
set_option linter.unusedSimpArgs false
set_option linter.unnecessarySimpa false
noncomputable section
namespace Go.Sim
open Go.RowKit
structure St where
 tmps:List AV
 heap:List Box
structure IV where
 inv:World->Prop
 pin:Nat
 top:Bool
instance:CoeFun IV fun _=>World->Prop:=⟨IV.inv⟩
structure Cx where
 av:Nat->Prop
 w1:World
 A1:Nat->Prop
 M1:Id->Option MB
 pin:Nat
 df:Nat->Prop
structure Ev (C:Cx) (w:World) (A:Nat->Prop) (M:Id->Option MB):Prop where
 size:C.w1.heap.size<=w.heap.size
 keep:∀ b,b<C.w1.heap.size->(¬ C.A1 b\/∀ id m,C.M1 id=some m->0<m.cap->m.b≠b)->w.heap[b]?=C.w1.heap[b]?
 less:∀ b,b<C.w1.heap.size->A b->C.A1 b
 more:∀ b,b<C.w1.heap.size->C.A1 b->(∀ id m,C.M1 id=some m->0<m.cap->m.b≠b)->A b
 ids:∀ id m,id.base<C.pin->C.M1 id=some m->∃ m',M id=some m'/\(m'=m\/m.ver<m'.ver)
 src:∀ id m',M id=some m'->0<m'.cap->(∃ i m,C.M1 i=some m/\0<m.cap/\m'.b=m.b)\/C.w1.heap.size<=m'.b
def Ev.refl {C:Cx}:Ev C C.w1 C.A1 C.M1 :=
 ⟨zd _,fun _ _ _=>rfl,fun _ _ h=>h,fun _ _ h _=>h,fun _ m _ h=>⟨m,h,.inl rfl⟩,fun i m h h0=>.inl ⟨i,m,h,h0,rfl⟩⟩
def Ev.step {C:Cx} {w w':World} {A A':Nat->Prop} {M M':Id->Option MB} (h:Ev C w A M) (hm:Mv w A M w' A' M'):Ev C w' A' M':=by
 have out:∀ b,b<C.w1.heap.size->(∀ id m,C.M1 id=some m->0<m.cap->m.b≠b)->∀ id m,M id=some m->0<m.cap->m.b≠b:=fun b hb D id m hi h0 e=>by
  rcases h.src id m hi h0 with ⟨i,m1,h1,h2,h3⟩|h1
  . exact D i m1 h1 h2 (by rw [<-h3,e])
  . omega
 refine ⟨Nat.le_trans h.size hm.size,fun b hb q=>?_,fun b hb hA=>h.less b hb (hm.less b (Nat.lt_of_lt_of_le hb h.size) hA),fun b hb hA D=>hm.more b (Nat.lt_of_lt_of_le hb h.size) (h.more b hb hA D) (out b hb D),fun id m hi h1=>?_,fun id m' hi h0=>?_⟩
 . rw [<-h.keep b hb q];have hb':=Nat.lt_of_lt_of_le hb h.size;rcases q with q|q
   . exact hm.keep b hb' fun hA=>q (h.less b hb hA)
   . exact hm.touch.1 b hb' (out b hb q)
 . obtain ⟨m1,h2,h3⟩:=h.ids id m hi h1;obtain ⟨m2,h4,h5⟩:=hm.ext id m1 h2;refine ⟨m2,h4,?_⟩;rcases h3 with rfl|h3<;>rcases h5 with rfl|h5
   . exact .inl rfl
   . exact .inr h5
   . exact .inr h3
   . exact .inr (Nat.lt_trans h3 h5)
 . rcases hm.touch.2 id m' hi h0 with ⟨i,m1,h1,h2,h3⟩|h1
   . rcases h.src i m1 h1 h2 with ⟨i2,m2,g1,g2,g3⟩|g1
     . exact .inl ⟨i2,m2,g1,g2,by rw [h3,g3]⟩
     . exact .inr (by rw [h3];exact g1)
   . exact .inr (Nat.le_trans h.size h1)
def St.eval (s:St):Operand->AV
 | .tmp t=>s.tmps.getD t .top
 | .const v=>avOf v
 | .global g=>.gptr g
 | .func f=>.func f []
def putT (ts:List AV) (d:Option Tmp) (v:AV):List AV :=
 match d with
 | some d=>ts.set d v
 | none=>ts
def frzIf (ids:List Nat) (i:Nat) (bx:Box):Box:=if ids.contains i=true then { bx with frz:=true } else bx
def freeze (H:List Box) (ids:List Nat):List Box:=if ids.isEmpty=true then H else H.mapIdx (frzIf ids)
def Enters (P:Program) (f:FuncId):Prop:=∃ fn,P.funcs[f]?=some fn/\fn.body.isNone=false/\(fn.name == "runtime.NumGoroutine")=false
def Good (P:Program) (Inv:IV) (f:FuncId) (args:List AV) (r:AV):Prop :=
 Enters P f/\∀ (w:World) (A:Nat->Prop) (vs:List Value),Inv w->(∀ b,A b->b<w.heap.size)->RC w A xIl vs args ->
  Calls P f vs.toArray w fun e w'=>∃ v,e=.returned v/\Below w.heap.size w w'/\Rel w' A xIl v r
def GoodM (P:Program) (Inv:IV) (f:FuncId) (args:List AV) (H:List Box) (r:AV) (H':List Box):Prop :=
 Enters P f/\∀ (w0 w:World) (A:Nat->Prop) (M:Id->Option MB) (vs:List Value),Inv w0->Below w0.heap.size w0 w->HR w A M w0.heap.size H->RC w A M vs args ->
  Calls P f vs.toArray w fun e w'=>∃ v A' M',e=.returned v/\Below w0.heap.size w0 w'/\(∀ b,b<w0.heap.size->(A' b↔A b))/\Ev ⟨A,w,A,M,H.length,fun _=>False⟩ w' A' M'/\HR w' A' M' w0.heap.size H'/\Rel w' A' M' v r
structure InvOk (Inv:IV):Prop where
 below:∀ w w',Inv w->Below w.heap.size w w'->Inv w'
def xIW (s:St) (c:Call):Option (FuncId×List AV) :=
 match c.callee with
 | .value f=>match s.eval f with
  | .func g caps=>match Nat.beq g vpF with
   | true=>none
   | false=>some (g,c.args.toList.map s.eval++caps)
  | _=>none
 | _=>none
def xIs:Nat:=5
def xIL (H:List Box) (args:List AV) (r:AV):List Box:=if r.flat=true then H else freeze H (args.flatMap (reach H xIs))
def fopX (P:Program) (ρ:Operand->AV) (H:List Box) (nid:Nat) (op:Op) (r:AV×Option Box):Prop:=fop P ρ H nid op=some r\/fopE P ρ H nid op=some r
def OpF (P:Program) (Inv:IV) (s:St) (o:Oper) (s':St):Prop :=
 (∃ x nb,fopX P s.eval s.heap s.heap.length o.op (x,nb)/\s'=⟨putT s.tmps o.dst x,s.heap++nb.toList⟩) \/
 (∃ c g args args' r,o.op=.call c/\xIW s c=some (g,args)/\mapO (resolve s.heap xIs) args=some args'/\Good P Inv g args' r /\
  s'=⟨putT s.tmps o.dst r,xIL s.heap args r⟩) \/
 (∃ c g args args' v k bx,o.op=.call c/\xIW s c=some (g,args)/\mapO (resolve s.heap xIs) args=some args'/\GoodM P Inv g args' [] (.osl (.b 0) v 0 k) [bx]/\isC bx.ty=false/\bx.pm=true /\
  s'=⟨putT s.tmps o.dst (.osl (.b s.heap.length) v 0 k),freeze s.heap (args.flatMap (reach s.heap xIs))++[bx]⟩)
def renI (f:Nat->Nat->Option (Nat×Nat)):Id->Nat->Option (Id×Nat)
 | .b n,ver=>match f n ver with
  | some (k,v)=>some (.b k,v)
  | none=>none
 | .r g i j,ver=>match f g 0 with
  | some (k,_)=>some (.r k i j,ver)
  | none=>none
mutual
def ren (f:Nat->Nat->Option (Nat×Nat)):AV->AV
 | .agg cs=>.agg (rens f cs)
 | .own id ver i j=>match renI f id ver with
  | some (k,v)=>.own k v i j
  | none=>.top
 | .osl id ver off len=>match renI f id ver with
  | some (k,v)=>.osl k v off len
  | none=>.top
 | .func g cs=>.func g (rens f cs)
 | .tuple vs=>.tuple (rens f vs)
 | .list sz xs=>.list sz xs
 | .eptr sz xs i j=>.eptr sz xs i j
 | .top=>.top
 | .bool b=>.bool b
 | .int k n=>.int k n
 | .str s=>.str s
 | .nils=>.nils
 | .nilptr=>.nilptr
 | .nilfn=>.nilfn
 | .empt=>.empt
 | .gptr g=>.gptr g
 | .yld g=>.yld g
def rens (f:Nat->Nat->Option (Nat×Nat)):List AV->List AV
 | []=>[]
 | x::xs=>ren f x::rens f xs
end
mutual
def renOk (f:Nat->Nat->Option (Nat×Nat)):AV->Bool
 | .agg cs=>xIP f cs
 | .own id ver _ _=>(renI f id ver).isSome
 | .osl id ver _ _=>(renI f id ver).isSome
 | .func _ cs=>xIP f cs
 | .tuple vs=>xIP f vs
 | .list _ _=>true
 | .eptr _ _ _ _=>true
 | .top=>true
 | .bool _=>true
 | .int _ _=>true
 | .str _=>true
 | .nils=>true
 | .nilptr=>true
 | .nilfn=>true
 | .empt=>true
 | .gptr _=>true
 | .yld _=>true
def xIP (f:Nat->Nat->Option (Nat×Nat)):List AV->Bool
 | []=>true
 | x::xs=>renOk f x&&xIP f xs
end
def xIt:List Nat->Nat->Option Nat
 | [],_=>none
 | a::l,x=>match Nat.beq a x with
  | true=>some 0
  | false=>match xIt l x with
   | some j=>some (j+1)
   | none=>none
def nodupB:List Nat->Bool
 | []=>true
 | a::l=>match xIt l a with
  | some _=>false
  | none=>nodupB l
def xIB (f:Nat->Nat->Option (Nat×Nat)) (ver:Nat) (bx:Box):Box:=match bx.pm with
 | true=>⟨ver,bx.sz,bx.ty,bx.xs,bx.frz,true⟩
 | false=>⟨ver,bx.sz,bx.ty,rens f bx.xs,bx.frz,false⟩
def xIJ (f:Nat->Nat->Option (Nat×Nat)) (bx:Box):Bool:=match bx.pm with
 | true=>true
 | false=>xIP f bx.xs
def inF (ids:List Nat) (id ver:Nat):Option (Nat×Nat):=match xIt ids id with
 | some j=>some (j,ver)
 | none=>none
def outF (ids:List Nat) (n k:Nat) (j ver:Nat):Option (Nat×Nat):=match ids[j]? with
 | some id=>some (id,ver)
 | none=>some (n+(j - k),ver)
def subBoxes (f:Nat->Nat->Option (Nat×Nat)) (H:List Box):List Nat->Option (List Box)
 | []=>some []
 | id::ids=>match H[id]? with
  | some bx=>match xIJ f bx with
   | true=>match subBoxes f H ids with
    | some bs=>some (xIB f bx.ver bx::bs)
    | none=>none
   | false=>none
  | none=>none
def xIN (H:List Box):List Nat->List Box->List Box
 | id::ids,b::bs=>xIN (H.set id b) ids bs
 | _,_=>H
def xIZ (f:Nat->Nat->Option (Nat×Nat)):List Box->List Box
 | []=>[]
 | bx::bs=>xIB f bx.ver bx::xIZ f bs
def outHeap (H:List Box) (ids:List Nat) (H0':List Box):List Box :=
 xIN H ids (xIZ (outF ids H.length ids.length) H0')++(xIZ (outF ids H.length ids.length) H0').drop ids.length
def Settled (s s1:St):Prop :=
 ∃ ids,s1.heap=freeze s.heap ids/\s1.tmps.length=s.tmps.length /\
  ∀ t,s1.tmps.getD t .top=s.tmps.getD t .top\/(resolve s.heap xIs (s.tmps.getD t .top)=some (s1.tmps.getD t .top)/\∀ id,id∈reach s.heap xIs (s.tmps.getD t .top)->id∈ids)
def OpI0 (P:Program) (Inv:IV) (s:St) (o:Oper) (s':St):Prop :=
 (∃ x H',iop P s.eval s.heap o.op=some (x,H')/\s'=⟨putT s.tmps o.dst x,H'⟩) \/
 (∃ c g args ids H0 r0 H0',o.op=.call c/\xIW s c=some (g,args)/\nodupB ids=true/\subBoxes (inF ids) s.heap ids=some H0/\GoodM P Inv g (rens (inF ids) args) H0 r0 H0' /\
  s'=⟨putT s.tmps o.dst (ren (outF ids s.heap.length ids.length) r0),outHeap s.heap ids H0'⟩) \/
 (∃ s1 x nb,Settled s s1/\fop P s1.eval s1.heap s1.heap.length o.op=some (x,nb)/\s'=⟨putT s.tmps o.dst x,s1.heap++nb.toList⟩)
def Unm (s s1:St):Prop:=∃ (n:Nat) (bx:Box),s.heap[n]?=some bx/\isC bx.ty=true/\xIa bx.ty=false/\rowsOk bx bx.xs=true/\s1=⟨s.tmps,s.heap.set n ⟨bx.ver,bx.sz,rty bx.ty,bx.xs,bx.frz,true⟩⟩
def OpI (P:Program) (Inv:IV) (s:St) (o:Oper) (s':St):Prop:=OpI0 P Inv s o s'\/(∃ s1,Unm s s1/\OpI0 P Inv s1 o s') \/
 ∃ s1 x H',Settled s s1/\iop P s1.eval s1.heap o.op=some (x,H')/\s'=⟨putT s.tmps o.dst x,H'⟩
def xsu {P:Program} {w:World} {A:Nat->Prop} {M:Id->Option MB} {B:Nat} {H:List Box} {nid:Nat} {ρ:Operand->AV} {ρc:Operand->Value} {o:Oper} {x:AV} {nb:Option Box} (hf:fopX P ρ H nid o.op (x,nb)) (hρ:∀ a,a∈o.op.operands.toList->Rel w A M (ρc a) (ρ a))
  (hR:HR w A M B H) (hB:B<=w.heap.size) (hn:Free M nid) (hH:∀ bx,nb=some bx->∃ f,H[nid]?=some { bx with frz:=f }):Gives P o ρc w A M B H nid x:=by
 rcases hf with hf|hf
 . exact xtZ hf hρ hR hB hn hH
 . exact xzf hf hρ hR hB hn hH
def HSub (h H:List Box):Prop:=∀ (id:Nat) (bx:Box),h[id]?=some bx->∃ f,H[id]?=some { bx with frz:=f }/\(bx.frz=true->f=true)
def HSub.refl (h:List Box):HSub h h:=fun id bx hb=>⟨bx.frz,hb,fun e=>e⟩
def HSub.trans {a b c:List Box} (h:HSub a b) (h':HSub b c):HSub a c:=fun id bx hb=>by
 obtain ⟨f,h1,h2⟩:=h id bx hb;obtain ⟨f',h3,h4⟩:=h' id _ h1;exact ⟨f',h3,fun e=>h4 (h2 e)⟩
def HSub.append (h:List Box) (l:List Box):HSub h (h++l):=fun id bx hb=>by
 have:id<h.length:=by
  rcases zK id h.length with h'|h'
  . exact h'
  . rw [zA h'] at hb;simp at hb
 exact ⟨bx.frz,by rw [zP this];exact hb,fun e=>e⟩
def xmF (H:List Box) (ids:List Nat) (id:Nat):(freeze H ids)[id]?=(H[id]?).map (frzIf ids id):=by grind [freeze,frzIf]
def HSub.freeze (H:List Box) (ids:List Nat):HSub H (freeze H ids):=fun id bx hb=>by
 rw [xmF,hb];unfold frzIf;by_cases hc:ids.contains id=true
 . exact ⟨true,by simp only [Option.map_some,hc,if_true],fun _=>rfl⟩
 . exact ⟨bx.frz,by simp only [Option.map_some,hc,if_false];rfl,fun e=>e⟩
def xjw (H:List Box) (ids:List Nat):(freeze H ids).length=H.length:=by
 unfold freeze;split<;>simp
def xpC (bx:Box) (f:Bool) (x:AV):xIA { bx with frz:=f } x={ xIA bx x with frz:=f }:=by cases x<;>rfl
def HSub.getB {h H:List Box} (hs:HSub h H) {id:Id} {bx:Box} (hb:getB h id=some bx):∃ f,Sim.getB H id=some { bx with frz:=f }/\(bx.frz=true->f=true):=by
 cases id with
 | b n=>exact hs n bx hb
 | r n i j =>
  obtain ⟨q,h1,h2⟩:=xlZ hb;obtain ⟨f,g1,g2⟩:=hs n q h1;rcases h2 with ⟨hc,rfl⟩|⟨hc,h2,h3,h4,rfl⟩
  . exact ⟨true,xei (bx:={ q with frz:=f }) g1 hc,fun _=>rfl⟩
  . refine ⟨f,?_,fun e=>g2 (by rw [xsV] at e;exact e)⟩
    rw [xeP (bx:={ q with frz:=f }) g1 hc h2 h3 h4,<-xpC]
def xn9 (H:List Box) (ids:List Nat) (id:Id):getB (freeze H ids) id=(getB H id).map (frzIf ids id.base):=by
 cases id with
 | b n=>exact xmF H ids n
 | r n i j =>
  simp only [getB,xmF,Id.base];cases hf:H[n]? with
  | none=>rfl
  | some fm =>
   simp only [Option.map_some];unfold frzIf;by_cases hc:ids.contains n=true
   . simp only [if_pos hc];split
     . split
       . rw [xpC];rfl
       . rfl
     . rfl
   . simp only [if_neg hc];split
     . split<;>rfl
     . rfl
def HSub.box {h H:List Box} (hs:HSub h H) {id:Id} {ver:Nat} {bx:Box} (hb:xIb h id ver=some bx):∃ f,xIb H id ver=some { bx with frz:=f }:=by
 obtain ⟨h1,h2⟩:=xaJ hb;obtain ⟨f,h3,_⟩:=hs.getB h1;exact ⟨f,by simp [xIb,h3,h2,xb1 hb]⟩
section mono
variable {P : Program} {h H : List Box} (hs : HSub h H)
include hs
def xte {ti:TI} {x r:AV} (hr:xI0 h ti x=some r):xI0 H ti x=some r:=by
 cases x<;>first|exact hr|skip
 rename_i id ver i j;simp only [xI0] at hr |-;cases hb:xIb h id ver with
 | none=>simp [hb] at hr
 | some bx =>
  obtain ⟨f,hf⟩:=hs.box hb;simp only [hb] at hr
  try simp only [hf]
  exact hr
def xuE {t:TypeId} {x r:AV} {lo hi:Option AV} (hr:xIM P h t x lo hi=some r):xIM P H t x lo hi=some r:=by
 unfold xIM at hr |-;split at hr
 case h_2=>simp at hr
 rename_i ti q;split at hr
 . rename_i s hd;(try simp only [q,hd]);exact hr
 . rename_i e sz xs hd;(try simp only [q,hd]);exact hr
 . rename_i e hd;(try simp only [q,hd]);exact hr
 . rename_i e id ver off len hd
   try simp only [q,hd]
   cases hb:xIb h id ver with
   | none=>simp [hb] at hr
   | some bx =>
    obtain ⟨f,hf⟩:=hs.box hb;simp only [hb] at hr;simp only [hf];cases D:xH7 P e<;>simp only [D] at hr |-<;>exact hr
 . simp at hr
def xqS {t:TypeId} {x ix r:AV} (hr:xIf P h t x ix=some r):xIf P H t x ix=some r:=by
 unfold xIf at hr |-;split at hr
 case h_2=>simp at hr
 rename_i ti k n q;split at hr
 . rename_i e sz xs hd;(try simp only [q,hd]);exact hr
 . rename_i e id ver off len hd
   try simp only [q,hd]
   cases hb:xIb h id ver with
   | none=>simp [hb] at hr
   | some bx =>
    obtain ⟨f,hf⟩:=hs.box hb;simp only [hb] at hr;simp only [hf];cases D:xH7 P e<;>simp only [D] at hr |-<;>exact hr
 . rename_i m e id ver i j hd
   try simp only [q,hd]
   cases hb:xIb h id ver with
   | none=>simp [hb] at hr
   | some bx =>
    obtain ⟨f,hf⟩:=hs.box hb;simp only [hb] at hr;simp only [hf];cases D:xH7 P e<;>simp only [D] at hr |-<;>exact hr
 . rename_i m e sz xs i j hd;(try simp only [q,hd]);exact hr
 . simp at hr
def xqR {t:TypeId} {x r:AV} {f:Nat} (hr:xIk P h t x f=some r):xIk P H t x f=some r:=by
 unfold xIk at hr |-;split at hr
 case h_2=>simp at hr
 rename_i ti D;split at hr
 case h_2=>simp at hr
 rename_i fs hd;split at hr
 case h_2=>simp at hr
 rename_i fd J;split at hr
 case h_2=>simp at hr
 rename_i tf q;split at hr
 . simp at hr
 rename_i hsz
 try simp only [D,hd,J,q,hsz,if_false]
 split at hr
 . exact hr
 . rename_i id ver i j;cases hb:xIb h id ver with
   | none=>simp [hb] at hr
   | some bx =>
    obtain ⟨f',hf⟩:=hs.box hb;simp only [hb] at hr
    try simp only [hf]
    exact hr
 . simp at hr
def xwp {t:TypeId} {x r:AV} (hr:absLen P h t x=some r):absLen P H t x=some r:=by
 unfold absLen at hr |-;split at hr
 case h_2=>simp at hr
 rename_i ti q;split at hr
 . rename_i s hd;(try simp only [q,hd]);exact hr
 . rename_i e sz xs hd;(try simp only [q,hd]);exact hr
 . rename_i e hd;(try simp only [q,hd]);exact hr
 . rename_i e id ver off len hd
   try simp only [q,hd]
   cases hb:xIb h id ver with
   | none=>simp [hb] at hr
   | some bx =>
    obtain ⟨f,hf⟩:=hs.box hb;simp only [hb] at hr
    try simp only [hf]
    exact hr
 . simp at hr
def xCc {ρ:Operand->AV} {nid:Nat} {op:Op} {r:AV×Option Box} (hr:fop P ρ h nid op=some r):fop P ρ H nid op=some r:=by
 unfold fop at hr |-;cases op<;>try exact hr
 case load t a =>
  simp only at hr |-;split at hr
  case h_2=>simp at hr
  rename_i ti D;split at hr
  case h_2=>simp at hr
  rename_i x hx
  (try simp only [D,xte hs hx]);exact hr
 case nilCheck x =>
  simp only at hr |-;split at hr
  . rename_i hx;(try simp only [hx]);exact hr
  . rename_i id ver i j hx
    try simp only [hx]
    cases hb:xIb h id ver with
    | none=>simp [hb] at hr
    | some bx =>
     obtain ⟨f,hf⟩:=hs.box hb;simp only [hb] at hr
     try simp only [hf]
     exact hr
  . rename_i hx;(try simp only [hx]);exact hr
  . simp at hr
 case slice t x lo hi mx =>
  simp only at hr |-;split at hr
  case h_2=>simp at hr
  split at hr
  case h_2=>simp at hr
  rename_i y hy
  (try simp only [xuE hs hy]);exact hr
 case fieldAddr t x f =>
  simp only at hr |-;split at hr
  case h_2=>simp at hr
  rename_i y hy
  (try simp only [xqR hs hy]);exact hr
 case indexAddr t x ix =>
  simp only at hr |-;split at hr
  case h_2=>simp at hr
  rename_i y hy
  (try simp only [xqS hs hy]);exact hr
 case call c =>
  simp only at hr |-;split at hr
  case h_2=>simp at hr
  rename_i b hb;split at hr
  . rename_i t ts x J q
    try simp only [hb,J,q]
    split at hr
    case h_2=>simp at hr
    rename_i y hy
    (try simp only [xwp hs hy]);exact hr
  . rename_i x xs q;(try simp only [hb,q]);exact hr
  . rename_i x xs q;(try simp only [hb,q]);exact hr
  . simp at hr
def xuC {sz:Nat} {x:AV} {r:List AV×Bool} (hr:xIK h sz x=some r):xIK H sz x=some r:=by
 unfold xIK at hr |-;split at hr
 . exact hr
 . exact hr
 . rename_i id ver off len;cases hb:xIb h id ver with
   | none=>simp [hb] at hr
   | some bx =>
    obtain ⟨f,hf⟩:=hs.box hb;simp only [hb] at hr;simp only [hf];exact hr
 . simp at hr
def xvG {n ver:Nat} {bx:Box} (hb:getMapR h n ver=some bx):∃ f,getMapR H n ver=some { bx with frz:=f }:=by
 obtain ⟨h1,h2⟩:=xic hb;obtain ⟨f,g1,_⟩:=hs n bx h1;refine ⟨f,?_⟩;unfold getMapR;simp only [g1];exact if_pos h2
def xwF {n ver:Nat} {bx:Box} (hb:getMap h n ver=some bx):∃ f,getMap H n ver=some { bx with frz:=f }:=by
 unfold getMap at hb;split at hb
 case h_2=>simp at hb
 rename_i bx' h1;split at hb
 case isFalse=>simp at hb
 rename_i h2;cases hb;obtain ⟨f,g1,_⟩:=hs n _ h1;refine ⟨f,?_⟩;unfold getMap;simp only [g1];exact if_pos h2
def xuD {t:TypeId} {m k r:AV} {c:Bool} (hr:absLookL P h t m k c=some r):absLookL P H t m k c=some r:=by
 unfold absLookL at hr |-;split at hr
 case h_2=>simp at hr
 rename_i n ver i j s kt et q
 (try simp only [q])
 split at hr
 case h_2=>simp at hr
 rename_i e2 te bx O V J D;obtain ⟨f,hf⟩:=xwF hs D
 (try simp only [O])
 (try simp only [V])
 (try simp only [J])
 (try simp only [hf])
 exact hr
def xpv {t:TypeId} {m k r:AV} {c:Bool} (hr:absLookR P h t m k c=some r):absLookR P H t m k c=some r:=by
 unfold absLookR at hr |-;split at hr
 case h_2=>simp at hr
 rename_i n ver i j s kt et q
 (try simp only [q])
 split at hr
 case h_2=>simp at hr
 rename_i te bx O J D;obtain ⟨f,hf⟩:=xvG hs D
 (try simp only [O])
 (try simp only [J])
 (try simp only [hf])
 exact hr
def xAJ {ρ:Operand->AV} {nid:Nat} {op:Op} {r:AV×Option Box} (hr:fopE P ρ h nid op=some r):fopE P ρ H nid op=some r:=by
 unfold fopE at hr |-;split at hr
 . exact hr
 . rename_i c;split at hr
   . rename_i b hb
     (try simp only [hb])
     split at hr
     . rename_i t t' s x h1 h2
       (try simp only [h1,h2])
       unfold absAppE at hr |-;split at hr
       case h_2=>simp at hr
       rename_i O
       (try simp only [O])
       split at hr
       case h_2=>simp at hr
       rename_i ti W
       (try simp only [W])
       split at hr
       case h_2=>simp at hr
       rename_i e hd
       (try simp only [hd])
       split at hr
       case h_2=>simp at hr
       rename_i te V
       (try simp only [V])
       split at hr
       case h_2=>simp at hr
       rename_i ys pm q;have hys':absSrc P H t t' e te.sz (ρ x)=some (ys,pm):=by
        unfold absSrc at q |-;split at q
        . rename_i J;rw [if_pos J];exact xuC hs q
        . rename_i J;rw [if_neg J];exact q
       (try simp only [hys'])
       exact hr
     . simp at hr
   . simp at hr
 . exact hr
 . rename_i t m k c;split at hr
   . rename_i r D;simp only [xuD hs D];exact hr
   split at hr
   case h_2=>simp at hr
   rename_i r D;simp only [lookLR (xpv hs D),xpv hs D];exact hr
 . simp at hr
def xAK {ρ:Operand->AV} {nid:Nat} {op:Op} {r:AV×Option Box} (hr:fopX P ρ h nid op r):fopX P ρ H nid op r:=hr.imp (xCc hs) (xAJ hs)
end mono
def xDQ {P:Program} {ρ:Operand->AV} {H:List Box} {n n':Nat} {op:Op} {x:AV} (h:fop P ρ H n op=some (x,none)):fop P ρ H n' op=some (x,none):=by unfold fop absMake at *;(repeat' split at h)<;>(try simp_all)<;>grind
def xl0 {r r':AV->Option AV}:∀ {xs ys:List AV},(∀ x y,x∈xs->r x=some y->r' x=some y)->mapO r xs=some ys->mapO r' xs=some ys
 | [],ys,_,h=>h
 | x::xs,ys,hr,h=>by
  unfold mapO at h |-;split at h
  . rename_i y zs h1 h2;simp only [hr x y (by simp) h1,xl0 (fun a b ha hb=>hr a b (by simp [ha]) hb) h2]
    exact h
  . simp at h
def xel {h H:List Box} (hs:HSub h H):∀ (n:Nat) (x y:AV),resolve h n x=some y->resolve H n x=some y/\reach H n x=reach h n x
 | 0,x,y,hr=>⟨hr,rfl⟩
 | n+1,x,y,hr=>by
  have D:∀ cs ds,mapO (resolve h n) cs=some ds->mapO (resolve H n) cs=some ds/\cs.flatMap (reach H n)=cs.flatMap (reach h n):=by
   intro cs ds hc;refine ⟨xl0 (fun a b _ J=>(xel hs n a b J).1) hc,?_⟩
   obtain ⟨e1,e2⟩:=xc7 hc;simp only [List.flatMap];congr 1;apply List.map_congr_left;intro a ha;obtain ⟨i,hi,rfl⟩:=xfq ha;exact (xel hs n _ _ (e2 i hi)).2
  have Z:∀ pm cs ds,mapE pm (resolve h n) cs=some ds->mapE pm (resolve H n) cs=some ds:=by
   intro pm cs ds hc;unfold mapE at hc |-;split
   . rename_i hp;rw [if_pos hp] at hc;exact hc
   . rename_i hp;rw [if_neg hp] at hc;refine xl0 (fun a b _ J=>?_) hc
     unfold resE at J |-;split at J
     . split at J
       case h_2=>simp at J
       rename_i zs ac;simp only [(D _ _ ac).1];exact J
     . exact (xel hs n _ _ J).1
  have Y:∀ pm cs ds,mapE pm (resolve h n) cs=some ds->¬ pm=true->(cs.flatMap fun (e:AV)=>e.cells.flatMap (reach H n))=cs.flatMap fun (e:AV)=>e.cells.flatMap (reach h n):=by
   intro pm cs ds hc hp;unfold mapE at hc;rw [if_neg hp] at hc;obtain ⟨e1,e2⟩:=xc7 hc;simp only [List.flatMap];congr 1;apply List.map_congr_left;intro a ha;obtain ⟨i,hi,rfl⟩:=xfq ha;have h2:=e2 i hi;unfold resE at h2;split at h2
   . rename_i ah af;split at h2
     case h_2=>simp at h2
     rename_i zs ac;have:=(D _ _ ac).2;rw [af];simp only [xhX];simpa [List.flatMap] using this
   . rename_i hne;have ab:(cs.getD i .top).cells=[cs.getD i .top]:=by
      generalize cs.getD i .top=q at hne;cases q<;>first|rfl|exact absurd rfl (hne _)
     rw [ab];have:=(xel hs n _ _ h2).2;simpa using this
  unfold resolve at hr |-;unfold reach;split at hr
  . rename_i hp;simp only [hp,if_true];exact ⟨hr,trivial⟩
  rename_i hp;simp only [hp,if_false];split at hr
  . rename_i cs;split at hr
    case h_2=>simp at hr
    rename_i ds aa;obtain ⟨a1,a2⟩:=D _ _ aa;simp only [a1];exact ⟨hr,a2⟩
  . rename_i f cs;split at hr
    . simp at hr
    rename_i ag;split at hr
    case h_2=>simp at hr
    rename_i ds aa;obtain ⟨a1,a2⟩:=D _ _ aa;simp only [ag,a1];exact ⟨hr,a2⟩
  . rename_i id ver i j;split at hr
    case h_2=>simp at hr
    rename_i bx V;split at hr
    case h_2=>simp at hr
    rename_i ys W;obtain ⟨f,hf⟩:=hs.box V;have ae:=(xaJ V).1;have ad:=(xaJ hf).1;simp only [hf,Z _ _ _ W,ae,ad];refine ⟨hr,?_⟩;by_cases O:bx.pm=true
    . simp [O]
    . simp only [O,if_false];rw [Y _ _ _ W O]
  . rename_i id ver off len;split at hr
    case h_2=>simp at hr
    rename_i bx V;split at hr
    case h_2=>simp at hr
    rename_i ys W;obtain ⟨f,hf⟩:=hs.box V;have ae:=(xaJ V).1;have ad:=(xaJ hf).1;simp only [hf,Z _ _ _ W,ae,ad];refine ⟨hr,?_⟩;by_cases O:bx.pm=true
    . simp [O]
    . simp only [O,if_false];rw [Y _ _ _ W O]
  . simp at hr
end Go.Sim
namespace Go.Sim
open Go.RowKit
def xpb {h:List Box}:∀ (n:Nat) (x y:AV) (id:Nat),resolve h n x=some y->id∈reach h n x->id<h.length
 | 0,x,y,id,_,D=>by simp [reach] at D
 | n+1,x,y,id,hr,D=>by
  have O:∀ cs ds,mapO (resolve h n) cs=some ds->id∈cs.flatMap (reach h n)->id<h.length:=by
   intro cs ds hc hm;obtain ⟨e1,e2⟩:=xc7 hc;obtain ⟨a,ha,hi⟩:=y9.1 hm;obtain ⟨i,aa,rfl⟩:=xfq ha;exact xpb n _ _ id (e2 i aa) hi
  have W:∀ pm cs ds,mapE pm (resolve h n) cs=some ds->¬ pm=true->id∈(cs.flatMap fun (e:AV)=>e.cells.flatMap (reach h n))->id<h.length:=by
   intro pm cs ds hc hp hm;unfold mapE at hc;rw [if_neg hp] at hc;obtain ⟨e1,e2⟩:=xc7 hc;obtain ⟨a,ha,hi⟩:=y9.1 hm;obtain ⟨i,aa,rfl⟩:=xfq ha;have h2:=e2 i aa;unfold resE at h2;split at h2
   . rename_i af ad;split at h2
     case h_2=>simp at h2
     rename_i zs ae;rw [ad,xhX] at hi;exact O _ _ ae hi
   . rename_i hne;have ac:(cs.getD i .top).cells=[cs.getD i .top]:=by
      generalize cs.getD i .top=q at hne;cases q<;>first|rfl|exact absurd rfl (hne _)
     rw [ac] at hi;exact xpb n _ _ id h2 (by simpa using hi)
  unfold resolve at hr;unfold reach at D;split at hr
  . rename_i hp;simp [hp] at D
  rename_i hp;simp only [hp,if_false] at D;split at hr
  . split at hr
    case h_2=>simp at hr
    rename_i ds Y;exact O _ _ Y D
  . split at hr
    . simp at hr
    split at hr
    case h_2=>simp at hr
    rename_i ds Y;exact O _ _ Y D
  . rename_i id' ver i j;split at hr
    case h_2=>simp at hr
    rename_i bx Z;split at hr
    case h_2=>simp at hr
    rename_i ys ab;have V:=(xaJ Z).1;simp only [V] at D;rcases zD.1 D with rfl|D
    . exact xjX V
    . by_cases J:bx.pm=true
      . simp [J] at D
      . simp only [J,if_false] at D;exact W _ _ _ ab J D
  . rename_i id' ver off len;split at hr
    case h_2=>simp at hr
    rename_i bx Z;split at hr
    case h_2=>simp at hr
    rename_i ys ab;have V:=(xaJ Z).1;simp only [V] at D;rcases zD.1 D with rfl|D
    . exact xjX V
    . by_cases J:bx.pm=true
      . simp [J] at D
      . simp only [J,if_false] at D;exact W _ _ _ ab J D
  . simp at hr
section
variable {P : Program} {Inv : IV} {w : World} {A : Nat -> Prop} {M : Id -> Option MB} {B : Nat} {H : List Box}
def xmX {f:FuncId} (h:Enters P f) (args:Array Value) (w:World):(callFunc f args).run P w=.ok (.enter f args) w:=by
 obtain ⟨fn,h1,h2,h3⟩:=h;simp only [callFunc,Sem.run_bind,run_program,Result.andThen_ok,h1,h2,h3,zU,if_false,Sem.run_pure]
def xoU {o:Oper} {c:Call} {ρc:Operand->Value} {fo:Operand} {g:FuncId} {vs:Array Value} (ho:o.op=.call c) (hc:c.callee=.value fo) (hf:ρc fo=.func (.func g) #[] vs) (he:Enters P g) :
  (execOp ρc o).run P w=.ok (.enter g ((c.args.toList.map ρc++vs.toList).toArray)) w:=by
 have e:c.args.map ρc++vs=(c.args.toList.map ρc++vs.toList).toArray:=by
  apply Array.ext';simp
 simp only [execOp,ho,Go.resolve,hc,hf,Deferred.ofValue,Sem.run_bind,Sem.run_pure,Result.andThen_ok,invoke,Array.empty_append,e];exact xmX he _ w
def without (A:Nat->Prop) (M:Id->Option MB) (ids:List Nat):Nat->Prop:=fun b=>A b/\¬ ∃ (id:Id) (m:MB),id.base∈ids/\M id=some m/\m.b=b
def xpa (hR:HR w A M B H) {A':Nat->Prop} (hA:∀ b,b<w.heap.size->A' b->A b) {n:Nat} {xs ys:List AV} {vs:List Value} (h:RC w A M vs xs) (hm:mapO (resolve H n) xs=some ys)
  (J:∀ id:Id,id.base∈xs.flatMap (reach H n)->∀ m,M id=some m->0<m.cap->¬ A' m.b):RC w A' xIl vs ys:=by
 obtain ⟨e1,e2⟩:=xc7 hm;refine ⟨by rw [h.1,e1],fun i hi=>?_⟩
 have hi':i<xs.length:=by omega
 exact xcV hR hA n _ _ _ (h.2 i hi') (e2 i hi') fun id q m D=>J id (y9.2 ⟨_,xaI hi',q⟩) m D
def xAo (hR:HR w A M B H) (hI:Inv w) {g:FuncId} {args q:List AV} {r:AV} {vs:List Value} (hv:RC w A M vs args) (hm:mapO (resolve H xIs) args=some q) (hg:Good P Inv g q r)
  (J:r.flat=true\/∀ id:Id,id.base∈args.flatMap (reach H xIs)->∀ m,M id=some m->0<m.cap->¬ A m.b) :
  Calls P g vs.toArray w fun e w'=>∃ v,e=.returned v/\Below w.heap.size w w'/\Rel w' A M v r:=by
 rcases J with V|J
 . have D:=xpa hR (A':=without A M (args.flatMap (reach H xIs))) (fun b _ h=>h.1) hv hm (fun id W m O _ h=>h.2 ⟨id,m,W,O,rfl⟩)
   refine (hg.2 w _ vs hI (fun b hb=>hR.lt b hb.1) D).mono ?_
   rintro e w' ⟨v,rfl,hb,hr⟩;exact ⟨v,rfl,hb,hr.flat V⟩
 . have D:=xpa hR (A':=A) (fun b _ h=>h) hv hm J
   refine (hg.2 w _ vs hI hR.lt D).mono ?_;rintro e w' ⟨v,rfl,hb,hr⟩;exact ⟨v,rfl,hb,hr.mono (fun _ _ _=>rfl) (zd _) (fun _ _ h=>h) (xsE M)⟩
def xAL {h H:List Box} {ids:List Nat} (D:HSub (freeze h ids) H) {id:Id} (q:id.base<h.length) (J:id.base∈ids) {bx:Box} (hb:getB H id=some bx):bx.frz=true:=by
 have key:∀ n,n<h.length->n∈ids->∀ b:Box,H[n]?=some b->b.frz=true:=fun n hn hm b hb=>by
  have h1:(freeze h ids)[n]?=some { h[n] with frz:=true }:=by
   rw [xmF,zf hn];simp only [Option.map_some,frzIf,List.contains_iff_mem.2 hm,if_true]
  obtain ⟨f,h2,h3⟩:=D n _ h1;rw [h2] at hb;simp only [z6] at hb;rw [<-hb];exact h3 rfl
 cases id with
 | b n=>exact key n q J bx hb
 | r n i j =>
  obtain ⟨O,h1,⟨_,rfl⟩|⟨_,_,_,_,rfl⟩⟩:=xlZ hb
  . rfl
  . rw [xsV];exact key n q J O h1
def xzi {w':World} (hR:HR w A M B H) (hB:B<=w.heap.size) (O:Below w.heap.size w w') {n:Nat} (hn:Free M n) {bx:Box} {f:Bool} (W:isC bx.ty=false) (ac:bx.pm=true) (hH:H[n]?=some { bx with frz:=f }) (ag:bx.frz=true->f=true)
  {A':Nat->Prop} {M':Id->Option MB} (hA:∀ b,b<w.heap.size->(A' b↔A b)) (ab:HR w' A' M' w.heap.size [bx]) {v:Value} {ver off len:Nat} (hr:Rel w' A' M' v (.osl (.b 0) ver off len)) :
  ∃ A'' M'',MExt M M''/\(∀ b,b<w.heap.size->(A'' b↔A b))/\(∀ id m,M'' id=some m->(∃ m0,M id=some m0)\/id=.b n)/\Touch w w' M M''/\HR w' A'' M'' B H/\Rel w' A'' M'' v (.osl (.b n) ver off len):=by
 obtain ⟨m,hm,hv,h1,he⟩:=hr.osl_inv;obtain ⟨V,ah,g⟩:=ab.box (.b 0) m hm;have ae:V=bx:=by
  have:some bx=some V:=ah;exact (Option.some.inj this).symm
 subst ae;have Z:MExt M (MPut M n m):=xlt hn m;have aa:∀ b,b<w.heap.size->((A' b/\(b<w.heap.size\/f=false))↔A b):=fun b hb=>⟨fun h=>(hA b hb).1 h.1,fun h=>⟨(hA b hb).2 h,.inl hb⟩⟩
 refine ⟨fun b=>A' b/\(b<w.heap.size\/f=false),MPut M n m,Z,aa,fun id m0 h=>?_,⟨fun b hb _=>O.block b hb,fun id m' J h0=>?_⟩,⟨fun id m' J=>?_,fun id id' m1 m2 h1 h2 c1 c2 hq=>?_,fun b hb=>ab.lt b hb.1⟩,.osl v (.b n) ver off len m (by simp [MPut]) hv h1 he⟩
 . by_cases D:id=.b n
   . exact .inr D
   . exact .inl ⟨m0,by simpa [MPut,D] using h⟩
 . by_cases D:id=.b n
   . subst D;have:m'=m:=by simp [MPut] at J;exact J.symm
     subst this;exact .inr (g.low h0)
   . exact .inl ⟨id,m',by simpa [MPut,D] using J,h0,rfl⟩
 . by_cases D:id=.b n
   . subst D;have:m'=m:=by simp [MPut] at J;exact J.symm
     subst this;refine ⟨_,hH,⟨g.ver,g.sz,g.ty,g.capm,g.fits,g.ok,fun h0=>Nat.le_trans hB (g.low h0),g.lt,fun h0=>?_,fun h0=>⟨fun hf=>⟨(g.guard h0).1 ?_,.inr hf⟩,fun hf=>?_⟩⟩⟩
     . obtain ⟨c,q1,q2,q3⟩:=g.cells h0;refine ⟨c,q1,q2,fun i j hi hj=>?_⟩
       have q:=q3 i j hi hj;rw [xar W,xax W,ac] at q;rw [xar W,xax (show isC ({ V with frz:=f }:Box).ty=false from W)]
       show Rel w' _ (MP (MPut M n m') V.pm) _ _;rw [ac];exact q.mono (fun _ _ _=>rfl) (zd _) (fun _ _ h=>h.1) (MExt.refl _)
     . cases hb:V.frz with
       | false=>rfl
       | true=>have:=ag hb;rw [this] at hf;simp at hf
     . rcases hf.2 with h|h
       . have:=g.low h0;omega
       . exact h
   . have af:M id=some m':=by simpa [MPut,D] using J
     obtain ⟨bx',e1,e2⟩:=hR.box id m' af;exact ⟨bx',e1,e2.mono (fun h0=>O.block _ (e2.lt h0)) (fun b hb _=>O.block b hb) O.size (fun b hb h=>(aa b hb).1 h) (fun h0=>(e2.guard h0).trans (aa _ (e2.lt h0)).symm) Z⟩
 . have ad:∀ (id':Id) (m2:MB),M id'=some m2->0<m2.cap->0<m.cap->m.b=m2.b->False:=fun id' m2 h2 c2 c1 he=>by
    obtain ⟨bx',_,h3⟩:=hR.box id' m2 h2;have:=h3.lt c2;have:=g.low c1;omega
   by_cases hi:id=.b n<;>by_cases Y:id'=.b n
   . rw [hi,Y]
   . exfalso;have e1:m1=m:=by simp [MPut,hi] at h1;exact h1.symm
     subst e1;exact ad id' m2 (by simpa [MPut,Y] using h2) c2 c1 hq
   . exfalso;have e1:m2=m:=by simp [MPut,Y] at h2;exact h2.symm
     subst e1;exact ad id m1 (by simpa [MPut,hi] using h1) c1 c2 hq.symm
   . exact hR.inj id id' m1 m2 (by simpa [MPut,hi] using h1) (by simpa [MPut,Y] using h2) c1 c2 hq
def xrV {s s':St} {o:Oper} (h:OpF P Inv s o s') (O:HSub s'.heap H) {a:Act} (hR:HR w A M B H) (hB:B<=w.heap.size) (hI:Inv w)
  (hρ:∀ x,x∈o.op.operands.toList->Rel w A M (a.eval x) (s.eval x)) (hn:s.heap.length<s'.heap.length->Free M s.heap.length) {K:Act->World->Prop} {Q:Exit->Act->World->Prop} :
  ∃ x,s'.tmps=putT s.tmps o.dst x/\((∀ v w' A' M',Below w.heap.size w w'->MExt M M'->(∀ b,b<w.heap.size->(A' b↔A b)) ->
   (∀ id m,M' id=some m->(∃ m0,M id=some m0)\/(id=.b s.heap.length/\s.heap.length<s'.heap.length))->Touch w w' M M'->HR w' A' M' B H->Rel w' A' M' v x->K (a.put o.dst v) w')->o.wp P a w K Q):=by
 rcases h with ⟨x,nb,hf,rfl⟩|⟨c,g,args,ab,r,ho,J,hm,hg,rfl⟩|⟨c,g,args,ab,ver,k,bx,ho,J,hm,hg,bd,ba,rfl⟩
 . refine ⟨x,rfl,fun hK=>?_⟩
   have V:HSub s.heap H:=(HSub.append s.heap nb.toList).trans O;have hf':=xAK V hf;cases nb with
   | none =>
    have hn':Free M H.length:=hR.free_of_length (zd _);obtain ⟨v,w',A',M',ah,Y,ag,hA,hM,ae,hr⟩:=xsu (o:=o) (ρc:=a.eval) (hf'.imp (xDQ (n':=H.length)) (xCb (n':=H.length))) hρ hR hB hn' (by simp)
    have bb:∀ id m,M' id=some m->∃ m0,M id=some m0:=by
     intro id m hm;by_cases D:id=.b H.length
     . rw [D,ae.none_of_length (zd _)] at hm;simp at hm
     . rw [hM.1 id D] at hm;exact ⟨m,hm⟩
    have a6:Touch w w' M M':=.of_new Y fun id m hm=>by
     by_cases D:id=.b H.length
     . subst D;exact hM.2 m hm
     . rw [hM.1 id D] at hm;exact .inl hm
    have:=hK v w' A' M' Y ag hA (fun id m hm=>.inl (bb id m hm)) a6 ae hr
    unfold Oper.wp;rw [ah];exact this
   | some bx =>
    have af:s.heap.length<(s.heap++[bx]).length:=by simp
    have hn':Free M s.heap.length:=hn (by simp)
    obtain ⟨f,a1,_⟩:=O s.heap.length bx (by simp)
    obtain ⟨v,w',A',M',ah,Y,ag,hA,hM,ae,hr⟩:=xsu (o:=o) (ρc:=a.eval) hf' hρ hR hB hn' (fun bx' a9=>by cases a9;exact ⟨f,a1⟩)
    have:=hK v w' A' M' Y ag hA (fun id m hm=>by
     by_cases D:id=.b s.heap.length
     . exact .inr ⟨D,by simp⟩
     . rw [hM.1 id D] at hm;exact .inl ⟨m,hm⟩) (.of_new Y fun id m hm=>by
     by_cases D:id=.b s.heap.length
     . subst D;exact hM.2 m hm
     . rw [hM.1 id D] at hm;exact .inl hm) ae hr
    unfold Oper.wp;rw [ah];exact this
 . refine ⟨r,rfl,fun hK=>?_⟩
   unfold xIW at J;split at J
   case h_2=>simp at J
   rename_i fo aa;split at J
   case h_2=>simp at J
   rename_i g' q ao;split at J
   . simp at J
   rename_i ay;simp only [z6,zb] at J;obtain ⟨rfl,rfl⟩:=J;have Z:o.op.operands.toList=fo::c.args.toList:=by simp [ho,Op.operands,Call.operands,aa]
   have aj:=hρ fo (by rw [Z];simp)
   rw [ao] at aj;obtain ⟨cv,aw,aq,a4⟩:=aj.func_inv ay;have ak:=xmS (w:=w) (A:=A) (M:=M) (l:=c.args.toList) (ρc:=a.eval) (ρ:=s.eval) (fun x hx=>hρ x (by rw [Z];simp [hx]))
   have a0:RC w A M (c.args.toList.map a.eval++cv.toList) (c.args.toList.map s.eval++q):=RC.append ⟨ak.1,ak.2⟩ ⟨by simpa using aq,fun i hi=>by have:=a4 i hi;simpa [z7,zv] using this⟩
   have V:HSub s.heap H:=by
    unfold xIL at O;split at O
    . exact O
    . exact (HSub.freeze s.heap _).trans O
   obtain ⟨e1,e2⟩:=xc7 hm;have hm':mapO (resolve H xIs) (c.args.toList.map s.eval++q)=some ab:=xl0 (fun x y _ ap=>(xel V xIs x y ap).1) hm
   have W:(c.args.toList.map s.eval++q).flatMap (reach H xIs)=(c.args.toList.map s.eval++q).flatMap (reach s.heap xIs):=by
    simp only [List.flatMap];congr 1;apply List.map_congr_left;intro x hx;obtain ⟨i,hi,rfl⟩:=xfq hx;exact (xel V xIs _ _ (e2 i hi)).2
   have az:r.flat=true\/∀ id:Id,id.base∈(c.args.toList.map s.eval++q).flatMap (reach H xIs)->∀ m,M id=some m->0<m.cap->¬ A m.b:=by
    by_cases a7:r.flat=true
    . exact .inl a7
    . refine .inr fun id D m a3 ad an=>?_
      rw [W] at D;unfold xIL at O;rw [if_neg a7] at O;obtain ⟨x,hx,ax⟩:=y9.1 D;obtain ⟨i,hi,rfl⟩:=xfq hx;have am:=xpb xIs _ _ id.base (e2 i hi) ax;obtain ⟨a2,au,al⟩:=hR.box id m a3;have a5:a2.frz=true:=xAL O am D au;have:=(al.guard ad).2 an;rw [a5] at this;simp at this
   have ac:=xAo (P:=P) hR hI a0 hm' hg az;unfold Oper.wp;rw [xoU ho aa aw hg.1,Oper.upon_enter];refine ac.mono ?_;rintro e w' ⟨v,rfl,hb,hr⟩;exact hK v w' A M hb (MExt.refl M) (fun _ _=>Iff.rfl) (fun id m hm=>.inl ⟨m,hm⟩) (.of_new hb fun _ _ h=>.inl h) (hR.grow hb) hr
 . refine ⟨_,rfl,fun hK=>?_⟩
   unfold xIW at J;split at J
   case h_2=>simp at J
   rename_i fo aa;split at J
   case h_2=>simp at J
   rename_i g' q ao;split at J
   . simp at J
   rename_i ay;simp only [z6,zb] at J;obtain ⟨rfl,rfl⟩:=J;have Z:o.op.operands.toList=fo::c.args.toList:=by simp [ho,Op.operands,Call.operands,aa]
   have aj:=hρ fo (by rw [Z];simp)
   rw [ao] at aj;obtain ⟨cv,aw,aq,a4⟩:=aj.func_inv ay;have ak:=xmS (w:=w) (A:=A) (M:=M) (l:=c.args.toList) (ρc:=a.eval) (ρ:=s.eval) (fun x hx=>hρ x (by rw [Z];simp [hx]))
   have a0:RC w A M (c.args.toList.map a.eval++cv.toList) (c.args.toList.map s.eval++q):=RC.append ⟨ak.1,ak.2⟩ ⟨by simpa using aq,fun i hi=>by have:=a4 i hi;simpa [z7,zv] using this⟩
   have ai:HSub (freeze s.heap ((c.args.toList.map s.eval++q).flatMap (reach s.heap xIs))) H:=(HSub.append _ _).trans O;have V:HSub s.heap H:=(HSub.freeze s.heap _).trans ai;obtain ⟨e1,e2⟩:=xc7 hm;have hm':mapO (resolve H xIs) (c.args.toList.map s.eval++q)=some ab:=xl0 (fun x y _ ap=>(xel V xIs x y ap).1) hm
   have W:(c.args.toList.map s.eval++q).flatMap (reach H xIs)=(c.args.toList.map s.eval++q).flatMap (reach s.heap xIs):=by
    simp only [List.flatMap];congr 1;apply List.map_congr_left;intro x hx;obtain ⟨i,hi,rfl⟩:=xfq hx;exact (xel V xIs _ _ (e2 i hi)).2
   have az:∀ id:Id,id.base∈(c.args.toList.map s.eval++q).flatMap (reach H xIs)->∀ m,M id=some m->0<m.cap->¬ A m.b:=fun id D m a3 ad an=>by
    rw [W] at D;obtain ⟨x,hx,ax⟩:=y9.1 D;obtain ⟨i,hi,rfl⟩:=xfq hx;have am:=xpb xIs _ _ id.base (e2 i hi) ax;obtain ⟨a2,au,al⟩:=hR.box id m a3;have a5:a2.frz=true:=xAL ai am D au;have:=(al.guard ad).2 an;rw [a5] at this;simp at this
   have a8:=xpa hR (A':=A) (fun b _ h=>h) a0 hm' az
   have af:s.heap.length<(freeze s.heap ((c.args.toList.map s.eval++q).flatMap (reach s.heap xIs))++[bx]).length:=by rw [z8,xjw];simp
   obtain ⟨f,a1,bc⟩:=O s.heap.length bx (by rw [List.getElem?_append_right (by rw [xjw];exact zd _),xjw];simp)
   have ac:=hg.2 w w A xIl _ hI (Below.refl _ _) ⟨fun id m h=>by simp [xIl] at h,fun id id' m m' h=>by simp [xIl] at h,hR.lt⟩ a8
   unfold Oper.wp;rw [xoU ho aa aw hg.1,Oper.upon_enter];refine ac.mono ?_;rintro e w' ⟨v,A',M',rfl,hb,be,_,ae,hr⟩;obtain ⟨A'',M'',q1,q2,q3,q4,q5,q6⟩:=xzi hR hB hb (hn af) bd ba a1 bc be ae hr;exact hK v w' A'' M'' hb q1 q2 (fun id m hm=>(q3 id m hm).imp (fun h=>h) fun h=>⟨h,af⟩) q4 q5 q6
def HR.refreeze {h:List Box} (hR:HR w A M B h) (D:HSub h H) :
  ∃ A',HR w A' M B H/\(∀ b,A' b->A b)/\(∀ b,b<B->A b->A' b)/\(∀ b,A b->(∀ id m,M id=some m->0<m.cap->m.b≠b)->A' b):=by
 refine ⟨fun b=>A b/\¬ ∃ id m bx,M id=some m/\0<m.cap/\m.b=b/\getB H id=some bx/\bx.frz=true,⟨?_,hR.inj,fun b hb=>hR.lt b hb.1⟩,fun b hb=>hb.1,fun b hb hA=>⟨hA,?_⟩,fun b hA q=>⟨hA,?_⟩⟩
 . intro id m hm;obtain ⟨bx,h1,h2⟩:=hR.box id m hm;obtain ⟨f,h3,h4⟩:=D.getB h1;refine ⟨_,h3,h2.ver,h2.sz,h2.ty,h2.capm,h2.fits,h2.ok,h2.low,h2.lt,fun h0=>?_,fun h0=>?_⟩
   . obtain ⟨c,g1,g2,g3⟩:=h2.cells h0;exact ⟨c,g1,g2,fun i j hi hj=>(g3 i j hi hj).mono (fun _ _ _=>rfl) (zd _) (fun _ _ h=>h.1) (MExt.refl _)⟩
   show f=false↔_;constructor
   . intro hf;have J:bx.frz=false:=by
      cases hb:bx.frz with
      | false=>rfl
      | true=>rw [h4 hb] at hf;simp at hf
     refine ⟨(h2.guard h0).1 J,?_⟩;rintro ⟨id',m',bx',e1,e0,e2,e3,e4⟩;have:id'=id:=hR.inj id' id m' m e1 hm e0 h0 e2;subst this;rw [h3] at e3;simp only [z6] at e3;rw [<-e3] at e4;simp [hf] at e4
   . rintro ⟨_,q⟩;cases hf:f with
     | false=>rfl
     | true=>exact absurd ⟨id,m,_,hm,h0,rfl,h3,hf⟩ q
 . rintro ⟨id,m,bx,e1,e0,e2,_,_⟩;obtain ⟨bx',_,h2⟩:=hR.box id m e1;have:=h2.low e0;omega
 . rintro ⟨id,m,bx,e1,e0,e2,_,_⟩;exact q id m e1 e0 e2
end
def rmark (D:Nat):Deferred:={ target:=.collected D,args:=#[] }
def DefOk (w0:World) (A0:Cx) (w:World) (ds:List Deferred):Prop:=∃ L:List Nat,ds=L.map rmark/\L.Nodup/\∀ D,D∈L->w0.heap.size<=D/\(A0.df D\/A0.w1.heap.size<=D)/\w.heap[D]?=some (.deferred (some []))
def DefOk.nil {w0:World} {A0:Cx} {w:World}:DefOk w0 A0 w []:=⟨[],rfl,List.nodup_nil,fun D h=>by simp at h⟩
def DefOk.same {w0:World} {A0:Cx} {w w':World} {ds:List Deferred} (h:DefOk w0 A0 w ds) (hs:∀ D:Nat,w.heap[D]?=some (.deferred (some []))->w'.heap[D]?=w.heap[D]?):DefOk w0 A0 w' ds:=by
 obtain ⟨L,h1,h2,h3⟩:=h;exact ⟨L,h1,h2,fun D hD=>⟨(h3 D hD).1,(h3 D hD).2.1,by rw [hs D (h3 D hD).2.2];exact (h3 D hD).2.2⟩⟩
def xjZ {w:World} {D:Nat} {o:Obj} (h:w.heap[D]?=some o):D<w.heap.size:=by
 rcases zK D w.heap.size with h'|h'
 . exact h'
 . rw [Array.getElem?_eq_none h'] at h;simp at h
def HR.not_box {w:World} {A:Nat->Prop} {M:Id->Option MB} {B:Nat} {H:List Box} (hR:HR w A M B H) {b:Nat} {o:Obj} (hb:w.heap[b]?=some o) (h1:∀ c t z,o≠.cells c t z) (h2:∀ es k,o≠.map es k):∀ id m,M id=some m->0<m.cap->m.b≠b:=fun id m hm h0 he=>by
 obtain ⟨bx,_,g⟩:=hR.box id m hm;obtain ⟨c,hc,_⟩:=g.cells h0;unfold HoldsC MapB at hc;rw [he,hb] at hc;split at hc
 . simp only [z6] at hc;exact h1 _ _ _ hc
 . obtain ⟨es,k,⟨e1,hc,_⟩,_⟩:=hc;simp only [z6] at hc;exact h2 _ _ hc
def DefOk.mv {w0:World} {A0:Cx} {w w':World} {A A':Nat->Prop} {M M':Id->Option MB} {B:Nat} {H:List Box} {ds:List Deferred} (h:DefOk w0 A0 w ds) (hR:HR w A M B H) (hm:Mv w A M w' A' M'):DefOk w0 A0 w' ds :=
 h.same fun D hD=>hm.touch.1 D (xjZ hD) (hR.not_box hD (by simp) (by simp))
structure SR (w0:World) (A0:Cx) (w:World) (A:Nat->Prop) (M:Id->Option MB) (s:St) (a:Act):Prop where
 base:Below w0.heap.size w0 w
 outer:∀ b,b<w0.heap.size->(A b↔A0.av b)
 size:a.tmps.size=s.tmps.length
 tmps:∀ t,t<s.tmps.length->Rel w A M (a.tmps.getD t undef) (s.tmps.getD t .top)
 heap:HR w A M w0.heap.size s.heap
 defers:DefOk w0 A0 w a.defers
 ev:Ev A0 w A M
def Rel.turn {w w':World} {A:Nat->Prop} {M:Id->Option MB} {v:Value} {x:AV} (h:Rel w A M v x) (hs:w.heap.size<=w'.heap.size) (hc:∀ a u,w.cell? a=some u->w'.cell? a=some u):Rel w' A M v x:=by
 induction h with
 | top v=>exact .top v
 | bool b=>exact .bool b
 | int k n=>exact .int k n
 | str s=>exact .str s
 | agg vs cs h hr ih=>exact .agg vs cs h ih
 | nils=>exact .nils
 | list0 a cap sz=>exact .list0 a cap sz
 | list b off cap sz xs val ha hb hne hcap hsz hcc hr ih=>exact .list b off cap sz xs val ha (Nat.lt_of_lt_of_le hb hs) hne hcap hsz (fun i j hi hj=>hc _ _ (hcc i j hi hj)) ih
 | eptr b off sz xs i0 j0 val ha hb hi hsz hcc hr ih=>exact .eptr b off sz xs i0 j0 val ha (Nat.lt_of_lt_of_le hb hs) hi hsz (fun i j hi hj=>hc _ _ (hcc i j hi hj)) ih
 | own v id ver i j m hm hv h1 he=>exact .own v id ver i j m hm hv h1 he
 | osl v id ver off len m hm hv h1 he=>exact .osl v id ver off len m hm hv h1 he
 | nilptr=>exact .nilptr
 | func f vs cs h hr hf ih=>exact .func f vs cs h ih hf
 | vptr b off v0 x ha hb hcc hr ih=>exact .vptr b off v0 x ha (Nat.lt_of_lt_of_le hb hs) (hc _ _ hcc) ih
 | nilfn=>exact .nilfn
 | nmap=>exact .nmap
 | empt a=>exact .empt a
 | tuple vs cs h hr ih=>exact .tuple vs cs h ih
 | gptr g=>exact .gptr g
 | yld g=>exact .yld g
def Bare (o:Obj):Prop:=(∀ c t z,o≠.cells c t z)/\∀ es k,o≠.map es k
def xoe {w:World} {D:Nat} {o o':Obj} (hD:w.heap[D]?=some o) (ho:Bare o) (a:Addr) (u:Value) (h:w.cell? a=some u):(w.putObj D o').cell? a=some u:=by
 have hne:a.block≠D:=fun e=>by
  unfold World.cell? at h;rw [e,hD] at h;cases o<;>first|exact absurd rfl (ho.1 _ _ _)|simp at h
 unfold World.cell? at h |-;rw [World.putObj_heap_other hne];exact h
def HR.turn {w:World} {A:Nat->Prop} {M:Id->Option MB} {B:Nat} {H:List Box} (h:HR w A M B H) {D:Nat} {o:Obj} (hD:w.heap[D]?=some o) (ho:Bare o) (o':Obj):HR (w.putObj D o') A M B H:=by
 refine ⟨fun id m hm=>?_,h.inj,fun b hb=>by rw [World.putObj_size];exact h.lt b hb⟩
 obtain ⟨bx,h1,g⟩:=h.box id m hm;refine ⟨bx,h1,g.ver,g.sz,g.ty,g.capm,g.fits,g.ok,g.low,fun h0=>by rw [World.putObj_size];exact g.lt h0,fun h0=>?_,g.guard⟩
 obtain ⟨c,k1,k2,k3⟩:=g.cells h0;exact ⟨c,k1.same (World.putObj_heap_other (h.not_box hD ho.1 ho.2 id m hm h0)),k2,fun i j hi hj=>(k3 i j hi hj).turn (by simp) (xoe hD ho)⟩
def Ev.turn {C:Cx} {w:World} {A:Nat->Prop} {M:Id->Option MB} (h:Ev C w A M) {D:Nat} (hD:C.w1.heap.size<=D) (o':Obj):Ev C (w.putObj D o') A M :=
 ⟨by rw [World.putObj_size];exact h.size,fun b hb q=>by rw [World.putObj_heap_other (by omega)];exact h.keep b hb q,h.less,h.more,h.ids,h.src⟩
def xy1 {w0 w:World} (h:Below w0.heap.size w0 w) {D:Nat} (hD:w0.heap.size<=D) (o':Obj):Below w0.heap.size w0 (w.putObj D o') :=
 ⟨h.os,h.tape,h.output,by rw [World.putObj_size];exact h.size,fun b hb=>by rw [World.putObj_heap_other (by omega)];exact h.block b hb⟩
def SR.turn {w0 w:World} {A0:Cx} {A:Nat->Prop} {M:Id->Option MB} {s:St} {a:Act} (h:SR w0 A0 w A M s a) {D:Nat} {o:Obj} (hD:w.heap[D]?=some o) (ho:Bare o) (h1:w0.heap.size<=D) (h2:A0.w1.heap.size<=D) (o':Obj) {ds:List Deferred} (hd:DefOk w0 A0 (w.putObj D o') ds):SR w0 A0 (w.putObj D o') A M s { a with defers:=ds } :=
 ⟨xy1 h.base h1 o',h.outer,h.size,fun t ht=>(h.tmps t ht).turn (by simp) (xoe hD ho),h.heap.turn hD ho o',hd,h.ev.turn h2 o'⟩
def SOk (w0:World) (A0:Cx) (s:St):Act->World->Prop:=fun a w=>∃ A M,SR w0 A0 w A M s a
section
variable {P : Program} {Inv : IV} {w0 w : World} {A0 : Cx} {A : Nat -> Prop} {M : Id -> Option MB}
def SR.eval {s:St} {a:Act} (h:SR w0 A0 w A M s a) (x:Operand):Rel w A M (a.eval x) (s.eval x):=by
 cases x with
 | tmp t =>
  by_cases ht:t<s.tmps.length
  . exact h.tmps t ht
  . have:s.eval (.tmp t)=.top:=by simp [St.eval,z7,zA (Nat.le_of_not_lt ht)]
    rw [this];exact .top _
 | const v=>exact xcZ w A M v
 | global g=>exact .gptr g
 | func f=>exact .func f #[] [] rfl (by simp) (fun _=>rfl)
def xtA {s:St} {a:Act} {A':Nat->Prop} {M':Id->Option MB} {w':World} (h1:a.tmps.size=s.tmps.length) (h2:∀ t,t<s.tmps.length->Rel w' A' M' (a.tmps.getD t undef) (s.tmps.getD t .top)) {d:Option Tmp} {v:Value} {x:AV} (hv:Rel w' A' M' v x) :
  (a.put d v).tmps.size=(putT s.tmps d x).length/\∀ t,t<(putT s.tmps d x).length->Rel w' A' M' ((a.put d v).tmps.getD t undef) ((putT s.tmps d x).getD t .top):=by
 cases d with
 | none=>exact ⟨h1,h2⟩
 | some d =>
  refine ⟨by simp [Act.put,putT,h1],fun t ht=>?_⟩
  simp only [putT,y8] at ht;have q:t<a.tmps.size:=by omega
  simp only [Act.put,putT];by_cases hd:d=t
  . subst hd;have e1:(a.tmps.setIfInBounds d v).getD d undef=v:=by simp [zv,q]
    have e2:(s.tmps.set d x).getD d .top=x:=by simp [z7,ht]
    rw [e1,e2];exact hv
  . have e1:(a.tmps.setIfInBounds d v).getD t undef=a.tmps.getD t undef:=by simp [zv,Array.getElem?_setIfInBounds_ne hd]
    have e2:(s.tmps.set d x).getD t .top=s.tmps.getD t .top:=by simp [z7,zY hd]
    rw [e1,e2];exact h2 t ht
def xg6 (a:Act) (d:Option Tmp) (v:Value):(a.put d v).defers=a.defers:=by cases d<;>rfl
def SR.inv {s:St} {a:Act} (q:InvOk Inv) (hI:Inv w0) (h:SR w0 A0 w A M s a):Inv w:=q.below _ _ hI h.base
def SR.refreeze {s:St} {a:Act} {H:List Box} (h:SR w0 A0 w A M s a) (D:HSub s.heap H):∃ A',SR w0 A0 w A' M ⟨s.tmps,H⟩ a/\Mv w A M w A' M:=by
 obtain ⟨A',h1,h2,h3,h4⟩:=h.heap.refreeze D;have q:Mv w A M w A' M:=⟨zd _,fun _ _ _=>rfl,fun b _ hA=>h2 b hA,fun b _ hA J=>h4 b hA J,MExt.refl M,.of_new (Below.refl _ _) fun _ _ h=>.inl h⟩
 exact ⟨A',⟨h.base,fun b hb=>⟨fun hA=>(h.outer b hb).1 (h2 b hA),fun hA=>h3 b hb ((h.outer b hb).2 hA)⟩,h.size,fun t ht=>q.rel (h.tmps t ht),h1,h.defers,h.ev.step q⟩,q⟩
def OpF.sub {s s':St} {o:Oper} (h:OpF P Inv s o s'):HSub s.heap s'.heap:=by
 rcases h with ⟨x,nb,_,rfl⟩|⟨c,g,args,q,r,_,_,_,_,rfl⟩|⟨c,g,args,q,v,k,bx,_,_,_,_,_,_,rfl⟩
 . exact HSub.append _ _
 . unfold xIL;split
   . exact HSub.refl _
   . exact HSub.freeze _ _
 . exact (HSub.freeze _ _).trans (HSub.append _ _)
def Mv.trans {w1 w2 w3:World} {A1 A2 A3:Nat->Prop} {M1 M2 M3:Id->Option MB} (h:Mv w1 A1 M1 w2 A2 M2) (g:Mv w2 A2 M2 w3 A3 M3):Mv w1 A1 M1 w3 A3 M3:=by
 have out:∀ b,b<w1.heap.size->(∀ id m,M1 id=some m->0<m.cap->m.b≠b)->∀ id m,M2 id=some m->0<m.cap->m.b≠b:=fun b hb q id m hi h0 e=>by
  rcases h.touch.2 id m hi h0 with ⟨i,m1,h1,h2,h3⟩|h1
  . exact q i m1 h1 h2 (by rw [<-h3,e])
  . omega
 have lt:∀ b,b<w1.heap.size->b<w2.heap.size:=fun b hb=>Nat.lt_of_lt_of_le hb h.size
 refine ⟨Nat.le_trans h.size g.size,fun b hb hA=>?_,fun b hb hA=>h.less b hb (g.less b (lt b hb) hA),fun b hb hA q=>g.more b (lt b hb) (h.more b hb hA q) (out b hb q),h.ext.trans g.ext,⟨fun b hb q=>?_,fun id m' hi h0=>?_⟩⟩
 . rw [g.keep b (lt b hb) fun h'=>hA (h.less b hb h'),h.keep b hb hA]
 . rw [g.touch.1 b (lt b hb) (out b hb q),h.touch.1 b hb q]
 . rcases g.touch.2 id m' hi h0 with ⟨i,m1,h1,h2,h3⟩|h1
   . rcases h.touch.2 i m1 h1 h2 with ⟨i2,m2,g1,g2,g3⟩|g1
     . exact .inl ⟨i2,m2,g1,g2,by rw [h3,g3]⟩
     . exact .inr (by rw [h3];exact g1)
   . exact .inr (Nat.le_trans h.size h1)
def SR.put {s:St} {a:Act} (hs:SR w0 A0 w A M s a) {w':World} {A':Nat->Prop} {M':Id->Option MB} {v:Value} {x:AV} {H':List Box} {d:Option Tmp} (J:Below w0.heap.size w0 w') (D:∀ b,b<w0.heap.size->(A' b↔A0.av b)) (q:Mv w A M w' A' M') (O:HR w' A' M' w0.heap.size H') (hr:Rel w' A' M' v x) :
  SR w0 A0 w' A' M' ⟨putT s.tmps d x,H'⟩ (a.put d v):=by
 obtain ⟨p1,p2⟩:=xtA (d:=d) hs.size (fun t ht=>q.rel (hs.tmps t ht)) hr
 exact ⟨J,D,p1,p2,O,by rw [xg6];exact hs.defers.mv hs.heap q,hs.ev.step q⟩
def xvZ (W:InvOk Inv) (hI:Inv w0) {s s':St} {o:Oper} {a:Act} (h:OpF P Inv s o s') (hs:SR w0 A0 w A M s a) {K:Act->World->Prop} {Q:Exit->Act->World->Prop}
  (hK:∀ v w' A' M',SR w0 A0 w' A' M' s' (a.put o.dst v)->Mv w A M w' A' M'->K (a.put o.dst v) w'):o.wp P a w K Q:=by
 obtain ⟨A1,D,O⟩:=hs.refreeze h.sub;obtain ⟨x,hx,Z⟩:=xrV (w:=w) (A:=A1) (M:=M) (B:=w0.heap.size) (a:=a) (K:=K) (Q:=Q) h (HSub.refl _) D.heap hs.base.size (hs.inv W hI) (fun y _=>by have:=D.eval y;exact this)
  (fun _=>hs.heap.free_of_length (zd _))
 refine Z fun v w' A' M' q V hA hM ht Y hr=>?_
 have J:Mv w A1 M w' A' M':=⟨q.size,fun b hb _=>q.block b hb,fun b hb h=>(hA b hb).1 h,fun b hb h _=>(hA b hb).2 h,V,ht⟩
 have:=D.put (d:=o.dst) (hs.base.trans (q.mono hs.base.size)) (fun b hb=>(hA b (Nat.lt_of_lt_of_le hb hs.base.size)).trans (D.outer b hb)) J Y hr
 refine hK v w' A' M' ?_ (O.trans J);have e:s'=⟨putT s.tmps o.dst x,s'.heap⟩:=by rw [<-hx]
 rw [e];exact this
def xD2 (q:InvOk Inv) (hI:Inv w0) {s s':St} {o:Oper} {a:Act} (h:OpF P Inv s o s') (hs:SR w0 A0 w A M s a) {K:Act->World->Prop} {Q:Exit->Act->World->Prop} (hK:∀ a' w',SOk w0 A0 s' a' w'->K a' w'):o.wp P a w K Q :=
 xvZ q hI h hs fun _ _ A' M' h _=>hK _ _ ⟨A',M',h⟩
def xf6 (f:Nat->Nat->Option (Nat×Nat)):∀ (xs:List AV) (i:Nat),(rens f xs).getD i .top=ren f (xs.getD i .top)
 | [],i=>by simp [rens,ren]
 | x::xs,0=>by simp [rens]
 | x::xs,i+1=>by simpa [rens] using xf6 f xs i
def xbF (f:Nat->Nat->Option (Nat×Nat)):∀ xs:List AV,(rens f xs).length=xs.length
 | []=>rfl
 | x::xs=>by simp [rens,xbF f xs]
def xur (f:Nat->Nat->Option (Nat×Nat)) (x:AV):(ren f x).cells=rens f x.cells:=by
 cases x<;>first|rfl|skip
 . rename_i id ver i j;simp only [ren,AV.cells,rens];cases renI f id ver<;>rfl
 . rename_i id ver i j;simp only [ren,AV.cells,rens];cases renI f id ver<;>rfl
def xpg {f:Nat->Nat->Option (Nat×Nat)}:∀ {xs:List AV},xIP f xs=true->∀ x,x∈xs->renOk f x=true
 | [],_,x,hx=>by simp at hx
 | y::ys,h,x,hx=>by
  simp only [xIP,zg] at h;rcases zD.1 hx with rfl|hx
  . exact h.1
  . exact xpg h.2 x hx
def xus {f:Nat->Nat->Option (Nat×Nat)}:∀ {xs:List AV},(∀ x,x∈xs->renOk f x=true)->xIP f xs=true
 | [],_=>rfl
 | y::ys,h=>by simp only [xIP,zg];exact ⟨h y (by simp),xus fun x hx=>h x (by simp [hx])⟩
def xwO {f:Nat->Nat->Option (Nat×Nat)} {x:AV} (h:renOk f x=true):xIP f x.cells=true:=by
 cases x<;>first|(simpa [renOk,AV.cells] using h)|(simp [AV.cells,xIP,h])
def xD8 {f:Nat->Nat->Option (Nat×Nat)} {x:AV} (h:renOk f x=true) (hx:x.one=true):(ren f x).one=true:=by unfold renOk ren AV.one at *;grind
def xrS {f:Nat->Nat->Option (Nat×Nat)}:∀ {xs:List AV} {y:AV},y∈rens f xs->∃ x,x∈xs/\y=ren f x
 | [],y,h=>by simp [rens] at h
 | x::xs,y,h=>by
  simp only [rens] at h;rcases zD.1 h with rfl|h
  . exact ⟨x,by simp,rfl⟩
  . obtain ⟨x',h1,h2⟩:=xrS h;exact ⟨x',by simp [h1],h2⟩
def xzE {f:Nat->Nat->Option (Nat×Nat)} {sz:Nat} {x:AV} (h:renOk f x=true) (hx:x.okElem sz=true):(ren f x).okElem sz=true:=by
 have h1:=xaw hx;have h2:=xa1 hx;simp only [AV.okElem,xur,xbF,h1,beq_self_eq_true,Bool.true_and,zJ];intro y hy;obtain ⟨z,hz,rfl⟩:=xrS hy;rw [zJ] at h2;exact xD8 (xpg (xwO h) z hz) (h2 z hz)
def xsQ {f:Nat->Nat->Option (Nat×Nat)} (h:∀ j ver,(f j ver).isSome=true) (id:Id) (ver:Nat):(renI f id ver).isSome=true:=by unfold renI;grind
mutual
def xrn {f:Nat->Nat->Option (Nat×Nat)} (h:∀ j ver,(f j ver).isSome=true):∀ x:AV,renOk f x=true
 | .agg cs=>xkX h cs
 | .func _ cs=>xkX h cs
 | .tuple cs=>xkX h cs
 | .own id ver _ _=>xsQ h id ver
 | .osl id ver _ _=>xsQ h id ver
 | .list _ _=>rfl
 | .eptr _ _ _ _=>rfl
 | .top=>rfl
 | .bool _=>rfl
 | .int _ _=>rfl
 | .str _=>rfl
 | .nils=>rfl
 | .nilptr=>rfl
 | .nilfn=>rfl
 | .empt=>rfl
 | .gptr _=>rfl
 | .yld _=>rfl
def xkX {f:Nat->Nat->Option (Nat×Nat)} (h:∀ j ver,(f j ver).isSome=true):∀ xs:List AV,xIP f xs=true
 | []=>rfl
 | x::xs=>by simp only [xIP,xrn h x,xkX h xs,Bool.and_self]
end
def RenTo (f:Nat->Nat->Option (Nat×Nat)) (M M':Id->Option MB):Prop :=
 ∀ id ver k v m,renI f id ver=some (k,v)->M id=some m->ver<=m.ver->∃ m',M' k=some m'/\v<=m'.ver/\m'.b=m.b/\m'.sz=m.sz/\m'.cap=m.cap/\m'.ty=m.ty/\(v=m'.ver->ver=m.ver)
def Rel.ren {w:World} {A:Nat->Prop} {M M':Id->Option MB} {f:Nat->Nat->Option (Nat×Nat)} {v:Value} {x:AV} (h:Rel w A M v x):RenTo f M M'->Rel w A M' v (Sim.ren f x):=by
 induction h generalizing M' with
 | top v=>intro _;exact .top v
 | bool b=>intro _;exact .bool b
 | int k n=>intro _;exact .int k n
 | str s=>intro _;exact .str s
 | agg vs cs h hr ih=>intro hf;exact .agg vs _ (by rw [xbF];exact h) fun i hi=>by rw [xf6];exact ih i (by rwa [xbF] at hi) hf
 | nils=>intro _;exact .nils
 | list0 a cap sz=>intro _;exact .list0 a cap sz
 | list b off cap sz xs val ha hb hne hcap hsz hc hr ih=>intro _;exact .list b off cap sz xs val ha hb hne hcap hsz hc hr
 | eptr b off sz xs i0 j0 val ha hb hi hsz hc hr ih=>intro _;exact .eptr b off sz xs i0 j0 val ha hb hi hsz hc hr
 | own v id ver i j m hm hv h1 he =>
  intro hf;simp only [Sim.ren];split
  . rename_i k u hk;obtain ⟨m',g1,g2,g3,g4,g5,g7,g6⟩:=hf id ver k u m hk hm hv;exact .own v k u i j m' g1 g2 h1 fun e=>by rw [he (g6 e)];unfold ptrOf;rw [g3,g4,g5,g7]
  . exact .top _
 | osl v id ver off len m hm hv h1 he =>
  intro hf;simp only [Sim.ren];split
  . rename_i k u hk;obtain ⟨m',g1,g2,g3,g4,g5,g7,g6⟩:=hf id ver k u m hk hm hv;exact .osl v k u off len m' g1 g2 h1 fun e=>by rw [g3,g4,g5];exact he (g6 e)
  . exact .top _
 | nilptr=>intro _;exact .nilptr
 | func g vs cs h hr hq ih=>intro hf;exact .func g vs _ (by rw [xbF];exact h) (fun i hi=>by rw [xf6];exact ih i (by rwa [xbF] at hi) hf) fun e=>by rw [hq e];rfl
 | vptr b off v0 x ha hb hc hr ih=>intro hf;exact .vptr b off v0 _ ha hb hc (ih hf)
 | nilfn=>intro _;exact .nilfn
 | nmap=>intro _;exact .nmap
 | empt a=>intro _;exact .empt a
 | tuple vs cs h hr ih=>intro hf;exact .tuple vs _ (by rw [xbF];exact h) fun i hi=>by rw [xf6];exact ih i (by rwa [xbF] at hi) hf
 | gptr g=>intro _;exact .gptr g
 | yld g=>intro _;exact .yld g
def xzI (f:Nat->Nat->Option (Nat×Nat)) (x:AV):rowLen (Sim.ren f x)=rowLen x:=by
 cases x<;>first|rfl|(simp only [Sim.ren];split<;>rfl)
def xuu {M':Id->Option MB} {v:Value} {n n' i j:Nat} {x y:AV} (h:Rel w A M v (xJc n i j x)) (hy:rowLen y=rowLen x) (hM:∀ m,M (.r n i j)=some m->M' (.r n' i j)=some m):Rel w A M' v (xJc n' i j y):=by
 obtain ⟨m,h1,h2,h3,h4⟩:=Rel.osl_inv h;unfold xJc;rw [hy];exact .osl v (.r n' i j) _ _ _ m (hM m h1) h2 h3 h4
def BoxAt.ren {M':Id->Option MB} {B:Nat} {f:Nat->Nat->Option (Nat×Nat)} {id id':Id} {m m':MB} {bx:Box} {ver:Nat} (h:BoxAt w A M B id m bx) (Z:xIJ f bx=true) (hf:RenTo f M M') (W:∀ i j m0,M (.r id.base i j)=some m0->M' (.r id'.base i j)=some m0)
  (e1:m'.b=m.b) (e2:m'.ver=ver) (e3:m'.sz=m.sz) (e4:m'.cap=m.cap) (e5:m'.ty=m.ty) :
  BoxAt w A M' B id' m' (xIB f ver bx):=by
 obtain ⟨D,V,q,O,J,Y⟩:=bx;cases Y with
 | true =>
  refine ⟨e2.symm,by rw [e3];exact h.sz,by rw [e5];exact h.ty,by rw [e4];exact h.capm,by rw [e4];exact h.fits,by rw [e3];exact h.ok,by rw [e1,e4];exact h.low,by rw [e1,e4];exact h.lt,fun h0=>?_,by rw [e1,e4];exact h.guard⟩
  rw [e4] at h0;obtain ⟨c,g1,g2,g3⟩:=h.cells h0;refine ⟨c,g1.re e1 e3 e4 e5,by rw [e3,e4];exact g2,fun i j hi hj=>?_⟩
  rw [e3] at hj |-;have g4:=g3 i j hi hj;have et:(xIB f ver ⟨D,V,q,O,J,true⟩).ty=q:=rfl;have ex:(xIB f ver ⟨D,V,q,O,J,true⟩).xs=O:=rfl;have ep:(xIB f ver ⟨D,V,q,O,J,true⟩).pm=true:=rfl;unfold MV xIw at g4 |-;rw [et,ex,ep];simp only at g4;cases hs:xH9 q j with
  | true =>
   simp only [hs] at g4 |-;exact xuu g4 rfl (W i j)
  | false =>
   simp only [hs] at g4 |-;exact g4
 | false =>
  refine ⟨e2.symm,by rw [e3];exact h.sz,by rw [e5];exact h.ty,by rw [e4];exact h.capm,by rw [e4];simp only [xIB,xbF];exact h.fits,fun x hx=>?_,by rw [e1,e4];exact h.low,by rw [e1,e4];exact h.lt,fun h0=>?_,by rw [e1,e4];exact h.guard⟩
  . obtain ⟨y,hy,rfl⟩:=xrS hx;rw [e3];exact xzE (xpg Z y hy) (h.ok y hy)
  . rw [e4] at h0;obtain ⟨c,g1,g2,g3⟩:=h.cells h0;refine ⟨c,by simp only [xIB,xbF];exact g1.re e1 e3 e4 e5,by rw [e3,e4];exact g2,fun i j hi hj=>?_⟩
    rw [e3] at hj |-;simp only [xIB,xbF] at hi;have g4:=g3 i j hi hj;have et:(xIB f ver ⟨D,V,q,O,J,false⟩).ty=q:=rfl;have ex:(xIB f ver ⟨D,V,q,O,J,false⟩).xs=rens f O:=rfl;have ep:(xIB f ver ⟨D,V,q,O,J,false⟩).pm=false:=rfl;unfold MV xIw at g4 |-;rw [et,ex,ep,xf6,xur,xf6];simp only at g4;cases hs:xH9 q j with
    | true =>
     simp only [hs] at g4 |-;exact xuu g4 (xzI f _) (W i j)
    | false =>
     simp only [hs] at g4 |-;exact g4.ren (f:=f) (M':=M') hf
def xzs (a:Nat) (l:List Nat) (x:Nat):xIt (a::l) x=match Nat.beq a x with|true=>some 0|false=>(match xIt l x with|some j=>some (j+1)|none=>none):=rfl
def xf3:∀ {l:List Nat} {x j:Nat},xIt l x=some j->l[j]?=some x
 | [],x,j,h=>by simp [xIt] at h
 | a::l,x,j,h=>by
  unfold xIt at h;split at h
  . rename_i hb;have:=zh hb;cases h;subst this;rfl
  . split at h
    . rename_i j' hj;cases h;simpa using xf3 hj
    . simp at h
def xsK:∀ {l:List Nat} {x:Nat},xIt l x=none->x∉l
 | [],x,_=>by simp
 | a::l,x,h=>by
  unfold xIt at h;split at h
  . simp at h
  . rename_i hb;split at h
    . simp at h
    . rename_i hn;have hne:a≠x:=fun e=>by subst e;simp at hb
      simp only [zD,not_or];exact ⟨fun e=>hne e.symm,xsK hn⟩
def xgY:∀ {l:List Nat} {x j:Nat},nodupB l=true->l[j]?=some x->xIt l x=some j
 | [],x,j,_,h=>by simp at h
 | a::l,x,j,hn,h=>by
  unfold nodupB at hn;split at hn
  . simp at hn
  rename_i q;cases j with
  | zero =>
   simp only [zZ,z6] at h;subst h;unfold xIt;simp
  | succ j =>
   have h':l[j]?=some x:=by simpa using h
   have hne:a≠x:=fun e=>by
    subst e;exact xsK q (List.mem_of_getElem? h')
   unfold xIt;have hb:Nat.beq a x=false:=by
    cases hb:Nat.beq a x with
    | false=>rfl
    | true=>exact absurd (zh hb) hne
   simp only [hb,xgY hn h']
def xpH {f:Nat->Nat->Option (Nat×Nat)} {H:List Box}:∀ {ids:List Nat} {H0:List Box},subBoxes f H ids=some H0->H0.length=ids.length/\∀ (j id:Nat),ids[j]?=some id->∃ bx:Box,H[id]?=some bx/\H0[j]?=some (xIB f bx.ver bx)/\xIJ f bx=true
 | [],H0,h=>by simp only [subBoxes,z6] at h;subst h;simp
 | a::ids,H0,h=>by
  unfold subBoxes at h;split at h
  case h_2=>simp at h
  rename_i bx hb;split at h
  case h_2=>simp at h
  rename_i q;split at h
  case h_2=>simp at h
  rename_i bs D;cases h;obtain ⟨h1,h2⟩:=xpH D;refine ⟨by simp [h1],fun j id hj=>?_⟩
  cases j with
  | zero =>
   simp only [zZ,z6] at hj;subst hj;exact ⟨bx,hb,rfl,q⟩
  | succ j=>exact h2 j id (by simpa using hj)
def xl5 (f:Nat->Nat->Option (Nat×Nat)):∀ (bs:List Box) (j:Nat),(xIZ f bs)[j]?=(bs[j]?).map fun bx=>xIB f bx.ver bx
 | [],j=>by simp [xIZ]
 | b::bs,0=>by simp [xIZ]
 | b::bs,j+1=>by simpa [xIZ] using xl5 f bs j
def xgL:∀ (ids:List Nat) (bs:List Box) (H:List Box),(xIN H ids bs).length=H.length
 | [],_,H=>by simp [xIN]
 | id::ids,[],H=>by simp [xIN]
 | id::ids,b::bs,H=>by simp only [xIN];rw [xgL ids bs];simp
def xol:∀ {ids:List Nat} {bs H:List Box} {id:Nat},nodupB ids=true->id<H.length->(xIN H ids bs)[id]?=match xIt ids id with
  | some j=>(match bs[j]? with|some b=>some b|none=>H[id]?)
  | none=>H[id]?
 | [],bs,H,id,_,_=>by cases bs<;>simp [xIN,xIt]
 | a::ids,[],H,id,_,_=>by
  simp only [xIN];split<;>simp
 | a::ids,b::bs,H,id,hn,hlt=>by
  unfold nodupB at hn;split at hn
  . simp at hn
  rename_i q;simp only [xIN];rw [xol hn (by simpa using hlt)]
  rw [xzs];cases hb:Nat.beq a id with
  | true =>
   have:=zh hb;subst this;simp [q,hlt]
  | false =>
   have hne:a≠id:=fun e=>by subst e;simp at hb
   cases hp:xIt ids id with
   | none=>simp [zY hne]
   | some j=>simp [zY hne]
def Id.re:Id->Nat->Id
 | .b _,n=>.b n
 | .r _ i j,n=>.r n i j
@[simp] theorem Id.re_base (x:Id) (n:Nat):(x.re n).base=n:=by cases x<;>rfl
@[simp] theorem Id.re_re (x:Id) (n m:Nat):(x.re n).re m=x.re m:=by cases x<;>rfl
@[simp] theorem Id.re_self (x:Id):x.re x.base=x:=by cases x<;>rfl
def Id.re_inj {x y:Id} {n m:Nat} (h:x.re n=y.re m):n=m/\(x.base=y.base->x=y):=by unfold Id.re Id.base at *;grind
def onF (ids:List Nat) (n k j:Nat):Nat:=match ids[j]? with
 | some id=>id
 | none=>n+(j - k)
def xtt (ids:List Nat) (n k j ver:Nat):outF ids n k j ver=some (onF ids n k j,ver):=by
 unfold outF onF;split<;>rfl
def xBg (ids:List Nat) (n k:Nat) (x:Id) (ver:Nat):renI (outF ids n k) x ver=some (x.re (onF ids n k x.base),ver):=by
 cases x with
 | b m=>simp only [renI,xtt,Id.base,Id.re]
 | r f i j=>simp only [renI,xtt,Id.base,Id.re]
def xCG {ids:List Nat} {x k:Id} {ver v:Nat} (h:renI (inF ids) x ver=some (k,v)):v=ver/\∃ j,xIt ids x.base=some j/\k=x.re j:=by
 cases x with
 | b m =>
  simp only [renI,inF] at h;cases hp:xIt ids m with
  | none=>rw [hp] at h;simp at h
  | some j =>
   rw [hp] at h;simp only [z6,zb] at h;exact ⟨h.2.symm,j,hp,h.1.symm⟩
 | r f i' j' =>
  simp only [renI,inF] at h;cases hp:xIt ids f with
  | none=>rw [hp] at h;simp at h
  | some j =>
   rw [hp] at h;simp only [z6,zb] at h;exact ⟨h.2.symm,j,hp,h.1.symm⟩
def xqw {f:Nat->Nat->Option (Nat×Nat)} {bx:Box} (h:bx.pm=true):xIB f bx.ver bx=bx:=by
 obtain ⟨a,b,c,d,e,p⟩:=bx;simp only at h;subst h;rfl
def xoj {f:Nat->Nat->Option (Nat×Nat)} {bx:Box} (h:bx.pm=true):xIJ f bx=true:=by
 unfold xIJ;rw [h]
def xoZ {H H':List Box} {f:Nat->Nat->Option (Nat×Nat)} {n n' i j:Nat} {rb:Box} (hb:getB H (.r n i j)=some rb) (hH:∀ q,H[n]?=some q->∃ V,H'[n']?=some (xIB f V q)):getB H' (.r n' i j)=some rb:=by
 obtain ⟨q,h1,h6⟩:=xlZ hb;obtain ⟨V,h5⟩:=hH q h1;obtain ⟨a,b,c,d,e,p⟩:=q;rcases h6 with ⟨hc,rfl⟩|⟨hc,h2,h3,h4,rfl⟩
 . refine xei h5 ?_;cases p<;>exact hc
 . simp only at hc h2 h3 h4;subst h3;rw [xeP h5 hc h2 rfl h4];simp only [xIB];generalize (d.getD i .top).cells.getD j .top=x;cases x<;>rfl
def xoa {H:List Box} {n i j:Nat} {rb:Box} (hb:getB H (.r n i j)=some rb):rb.pm=true:=by
 obtain ⟨q,_,⟨_,rfl⟩|⟨_,_,_,_,rfl⟩⟩:=xlZ hb
 . rfl
 . exact xBi _ _
def xy4 (hI:Inv w0) (aq:Below w0.heap.size w0 w) {H:List Box} (hR:HR w A M w0.heap.size H) {g:FuncId} {args:List AV} {vs:List Value} (hv:RC w A M vs args) {ids:List Nat} (Y:nodupB ids=true) {H0 H0':List Box} {r0:AV}
  (a9:subBoxes (inF ids) H ids=some H0) (hg:GoodM P Inv g (rens (inF ids) args) H0 r0 H0') :
  Calls P g vs.toArray w fun e w'=>∃ v A' M',e=.returned v/\Below w0.heap.size w0 w'/\(∀ b,b<w0.heap.size->(A' b↔A b))/\Mv w A M w' A' M'/\HR w' A' M' w0.heap.size (outHeap H ids H0')/\Rel w' A' M' v (ren (outF ids H.length ids.length) r0):=by
 obtain ⟨be,a8⟩:=xpH a9;let M0:Id->Option MB:=fun x=>(ids[x.base]?).bind fun n=>M (x.re n)
 have au:∀ (x:Id) n,ids[x.base]?=some n->M0 x=M (x.re n):=fun x n hj=>by simp [M0,hj]
 have J:∀ (x:Id) m,M0 x=some m->∃ n,ids[x.base]?=some n/\M (x.re n)=some m:=fun x m h=>by
  simp only [M0] at h;cases hj:ids[x.base]? with
  | none=>rw [hj] at h;simp at h
  | some n=>rw [hj] at h;exact ⟨n,rfl,by simpa using h⟩
 have ax:RenTo (inF ids) M M0:=fun id ver k v m hf hm hv=>by
  obtain ⟨rfl,j,hj,rfl⟩:=xCG hf;exact ⟨m,by rw [au (id.re j) id.base (by rw [Id.re_base];exact xf3 hj),Id.re_re,Id.re_self];exact hm,hv,rfl,rfl,rfl,rfl,fun e=>e⟩
 have ad:∀ k n,ids[k]?=some n->∀ i j m0,M (.r n i j)=some m0->M0 (.r k i j)=some m0:=fun k n hk i j m0 h=>by
  rw [au (.r k i j) n hk];exact h
 have bi:HR w A M0 w0.heap.size H0:=by
  refine ⟨fun x m hm=>?_,fun x x' m m' h1 h2 c1 c2 he=>?_,hR.lt⟩
  . obtain ⟨n,hj,aw⟩:=J x m hm;obtain ⟨bx,g1,g2,g3⟩:=a8 x.base n hj;obtain ⟨bx',g4,g5⟩:=hR.box (x.re n) m aw;cases x with
    | b k =>
     have g4':H[n]?=some bx':=g4;rw [g1] at g4';cases g4';exact ⟨_,g2,g5.ren g3 ax (ad k n hj) rfl g5.ver.symm rfl rfl rfl⟩
    | r k i j =>
     have hp:=xoa g4;have g6:getB H0 (.r k i j)=some bx':=xoZ (f:=inF ids) g4 fun a7 aj=>by
      rw [g1] at aj;cases aj;exact ⟨_,g2⟩
     have g7:=g5.ren (f:=inF ids) (M':=M0) (id':=.r k i j) (m':=m) (ver:=m.ver) (xoj hp) ax (ad k n hj) rfl rfl rfl rfl rfl;rw [<-g5.ver,xqw hp] at g7;exact ⟨bx',g6,g7⟩
  . obtain ⟨n,e1,e2⟩:=J x m h1;obtain ⟨n',e3,e4⟩:=J x' m' h2;have:=hR.inj _ _ m m' e2 e4 c1 c2 he;obtain ⟨rfl,hx⟩:=Id.re_inj this;have p1:=xgY Y e1;have p2:=xgY Y e3;rw [p1] at p2;exact hx (by simpa using p2)
 have bj:RC w A M0 vs (rens (inF ids) args):=⟨by rw [xbF];exact hv.1,fun i hi=>by
  rw [xf6];exact (hv.2 i (by rwa [xbF] at hi)).ren ax⟩
 refine (hg.2 w0 w A M0 vs hI aq bi bj).mono ?_;rintro e w' ⟨v,A',M0',rfl,a3,a2,D,ah,hr⟩;have a1:w.heap.size<=w'.heap.size:=D.size;have aa:∀ j id,ids[j]?=some id->id<H.length:=fun j id hj=>by
  obtain ⟨bx,g1,_⟩:=a8 j id hj;rcases zK id H.length with h|h
  . exact h
  . rw [zA h] at g1;simp at g1
 have bd:∀ id m,M id=some m->id.base<H.length:=fun id m hm=>by
  obtain ⟨bx,g1,_⟩:=hR.box id m hm;exact xjX g1
 let M':Id->Option MB:=fun x=>match xIt ids x.base with
  | some j=>M0' (x.re j)
  | none=>if x.base<H.length then M x else M0' (x.re (x.base - H.length+ids.length))
 have ae:∀ (x:Id) j,xIt ids x.base=some j->M' x=M0' (x.re j):=fun x j h=>by simp [M',h]
 have al:∀ x:Id,xIt ids x.base=none->x.base<H.length->M' x=M x:=fun x h h'=>by simp [M',h,h']
 have bk:∀ x:Id,¬ x.base<H.length->xIt ids x.base=none:=fun x h=>by
  cases hp:xIt ids x.base with
  | none=>rfl
  | some j=>exact absurd (aa j _ (xf3 hp)) h
 have ao:∀ x:Id,¬ x.base<H.length->M' x=M0' (x.re (x.base - H.length+ids.length)):=fun x h=>by
  simp [M',bk x h,h]
 have ba:∀ j,ids[j]?=none->ids.length<=j:=fun j hj=>by
  rcases zK j ids.length with h|h
  . rw [zf h] at hj;simp at hj
  . exact h
 have an:∀ y:Id,M' (y.re (onF ids H.length ids.length y.base))=M0' y:=fun y=>by
  unfold onF;cases hj:ids[y.base]? with
  | some id =>
   simp only;rw [ae _ y.base (by rw [Id.re_base];exact xgY Y hj),Id.re_re,Id.re_self]
  | none =>
   have:=ba _ hj;simp only;rw [ao _ (by rw [Id.re_base];omega),Id.re_base,Id.re_re,show H.length+(y.base - ids.length) - H.length+ids.length=y.base by omega,Id.re_self]
 have W:∀ (x:Id) m,M' x=some m->(∃ y:Id,M0' y=some m/\x=y.re (onF ids H.length ids.length y.base))\/(xIt ids x.base=none/\x.base<H.length/\M x=some m):=fun x m hm=>by
  cases hp:xIt ids x.base with
  | some j =>
   rw [ae x j hp] at hm;exact .inl ⟨x.re j,hm,by rw [Id.re_re,Id.re_base];unfold onF;rw [xf3 hp];simp⟩
  | none =>
   by_cases q:x.base<H.length
   . rw [al x hp q] at hm;exact .inr ⟨rfl,q,hm⟩
   . rw [ao x q] at hm;refine .inl ⟨_,hm,?_⟩;rw [Id.re_re,Id.re_base];unfold onF;rw [zA (by omega)]
     simp only;rw [show H.length+(x.base - H.length+ids.length - ids.length)=x.base by omega,Id.re_self]
 have O:RenTo (outF ids H.length ids.length) M0' M':=fun y ver k u m hf hm hv=>by
  rw [xBg] at hf;simp only [z6,zb] at hf;obtain ⟨rfl,rfl⟩:=hf;exact ⟨m,by rw [an];exact hm,hv,rfl,rfl,rfl,rfl,fun e=>e⟩
 have ak:∀ bx:Box,xIJ (outF ids H.length ids.length) bx=true:=by
  have az:∀ j ver,(outF ids H.length ids.length j ver).isSome=true:=fun j ver=>by rw [xtt];rfl
  have key:∀ x:AV,renOk (outF ids H.length ids.length) x=true:=xrn az;intro bx;unfold xIJ;split
  . rfl
  . exact xus fun x _=>key x
 have Z:∀ j bx,H0'[j]?=some bx->(outHeap H ids H0')[onF ids H.length ids.length j]?=some (xIB (outF ids H.length ids.length) bx.ver bx):=fun j bx g1=>by
  unfold onF;cases hj:ids[j]? with
  | some id' =>
   have q:=aa j id' hj;unfold outHeap;simp only;rw [zP (by rw [xgL];exact q),xol Y q,xgY Y hj]
   simp only [xl5,g1,Option.map_some]
  | none =>
   have:=ba _ hj;unfold outHeap;simp only;rw [List.getElem?_append_right (by rw [xgL];omega),xgL,List.getElem?_drop,show ids.length+(H.length+(j - ids.length) - H.length)=j by omega,xl5,g1]
   rfl
 have af:∀ k i j m0,M0' (.r k i j)=some m0->M' (.r (onF ids H.length ids.length k) i j)=some m0:=fun k i j m0 h=>by
  have:=an (.r k i j);rw [h] at this;exact this
 have ay:∀ x:Id,xIt ids x.base=none->x.base<H.length->(outHeap H ids H0')[x.base]?=H[x.base]?:=fun x hp q=>by
  unfold outHeap;rw [zP (by rw [xgL];exact q),xol Y q,hp]
 have a4:∀ b,(∀ id m,M id=some m->0<m.cap->m.b≠b)->∀ j m,M0 j=some m->0<m.cap->m.b≠b:=fun b h j m hm h0=>by
  obtain ⟨id,_,aw⟩:=J j m hm;exact h _ m aw h0
 have V:∀ (x:Id) m,xIt ids x.base=none->M x=some m->0<m.cap->∀ y m0,M0 y=some m0->0<m0.cap->m0.b≠m.b:=fun x m hp hm h0 y m0 hj c0 he=>by
  obtain ⟨n,e1,e2⟩:=J y m0 hj;have:=hR.inj _ x m0 m e2 hm c0 h0 he;subst this;rw [Id.re_base,xgY Y e1] at hp;simp at hp
 have am:MExt M M':=fun x m hm=>by
  cases hp:xIt ids x.base with
  | some j =>
   obtain ⟨m',g1,g2⟩:=D.ids (x.re j) m (by
    show (x.re j).base<H0.length;rw [Id.re_base,be];rcases zK j ids.length with h|h
    . exact h
    . have:=xf3 hp;rw [zA h] at this;simp at this) (by show M0 (x.re j)=some m;rw [au (x.re j) x.base (by rw [Id.re_base];exact xf3 hp),Id.re_re,Id.re_self];exact hm)
   exact ⟨m',by rw [ae x j hp];exact g1,g2⟩
  | none=>exact ⟨m,by rw [al x hp (bd x m hm)];exact hm,.inl rfl⟩
 have ac:∀ b,b<w.heap.size->¬ A b->w'.heap[b]?=w.heap[b]?:=fun b hb hA=>D.keep b hb (.inl hA)
 have ai:Touch w w' M M':=⟨fun b hb ap=>D.keep b hb (.inr (a4 b ap)),fun id m' hm h0=>by
  rcases W id m' hm with ⟨j,hj,_⟩|⟨_,_,ab⟩
  . rcases D.src j m' hj h0 with ⟨i,m,h1,h2,h3⟩|h1
    . obtain ⟨id',_,a0⟩:=J i m h1;exact .inl ⟨_,m,a0,h2,h3⟩
    . exact .inr h1
  . exact .inl ⟨id,m',ab,h0,rfl⟩⟩
 have bh:Mv w A M w' A' M':=⟨a1,ac,fun b hb h=>D.less b hb h,fun b hb h ap=>D.more b hb h (a4 b ap),am,ai⟩
 refine ⟨v,A',M',rfl,a3,a2,bh,⟨fun id m hm=>?_,fun id id' m m' h1 h2 c1 c2 he=>?_,ah.lt⟩,hr.ren O⟩
 . rcases W id m hm with ⟨j,hj,rfl⟩|⟨hp,q,ab⟩
   . obtain ⟨bx',g3,g4⟩:=ah.box j m hj;cases j with
     | b k=>exact ⟨_,Z k bx' g3,g4.ren (ak bx') O (af k) rfl g4.ver.symm rfl rfl rfl⟩
     | r k i' j' =>
      have hp:=xoa g3;have g6:getB (outHeap H ids H0') (.r (onF ids H.length ids.length k) i' j')=some bx':=xoZ (f:=outF ids H.length ids.length) g3 fun a7 aj=>⟨_,Z k a7 aj⟩
      have g7:=g4.ren (f:=outF ids H.length ids.length) (M':=M') (id':=.r (onF ids H.length ids.length k) i' j') (m':=m) (ver:=m.ver) (xoj hp) O (af k) rfl rfl rfl rfl rfl;rw [<-g4.ver,xqw hp] at g7;exact ⟨bx',g6,g7⟩
   . obtain ⟨bx,g1,g2⟩:=hR.box id m ab;refine ⟨bx,by rw [xkw (ay id hp q)];exact g1,g2.mono (fun h0=>D.keep m.b (g2.lt h0) (.inr (V id m hp ab h0))) ac a1 (fun b hb h=>D.less b hb h) (fun h0=>?_) am⟩
     rw [g2.guard h0];exact ⟨fun h=>D.more m.b (g2.lt h0) h (V id m hp ab h0),fun h=>D.less m.b (g2.lt h0) h⟩
 . have a5:∀ (ag:Id) (m1 m2:MB) (j:Id),M0' j=some m1->xIt ids ag.base=none->M ag=some m2->0<m1.cap->0<m2.cap->m1.b=m2.b->False:=fun ag m1 m2 j hj hp hm c1 c2 he=>by
    rcases D.src j m1 hj c1 with ⟨i,m,e1,e2,e3⟩|e1
    . exact V ag m2 hp hm c2 i m e1 e2 (by rw [<-e3,he])
    . obtain ⟨bx,_,g2⟩:=hR.box ag m2 hm;have:=g2.lt c2;simp only at e1;omega
   rcases W id m h1 with ⟨j,hj,hf⟩|⟨hp,q,bb⟩<;>rcases W id' m' h2 with ⟨j',bc,bg⟩|⟨bf,bl,a6⟩
   . have:=ah.inj j j' m m' hj bc c1 c2 he;subst this;rw [hf,bg]
   . exact (a5 id' m m' j hj bf a6 c1 c2 he).elim
   . exact (a5 id m' m j' bc hp bb c2 c1 he.symm).elim
   . exact hR.inj id id' m m' bb a6 c1 c2 he
def xCE {a b:List AV} {d:Option Tmp} {x y:AV} (hl:a.length=b.length) (h:putT a d x=putT a d y):putT b d x=putT b d y:=by
 cases d with
 | none=>rfl
 | some d =>
  simp only [putT] at h |-;by_cases hd:d<a.length
  . have:(a.set d x)[d]?=(a.set d y)[d]?:=by rw [h]
    simp [hd] at this;rw [this]
  . have hd':b.length<=d:=by rw [<-hl];exact Nat.le_of_not_lt hd
    rw [List.set_eq_of_length_le hd',List.set_eq_of_length_le hd']
def xqn (ap:InvOk Inv) (hI:Inv w0) {s s':St} {o:Oper} {a:Act} (h:OpI0 P Inv s o s') (hs:SR w0 A0 w A M s a) {K:Act->World->Prop} {Q:Exit->Act->World->Prop}
  (hK:∀ v w' A' M',SR w0 A0 w' A' M' s' (a.put o.dst v)->Mv w A M w' A' M'->K (a.put o.dst v) w'):o.wp P a w K Q:=by
 rcases h with ⟨x,H',hi,rfl⟩|⟨c,g,args,ids,H0,r0,H0',ho,D,a0,W,hg,rfl⟩|⟨s1,x,nb,ao,hf,rfl⟩
 . obtain ⟨n,w',A',M',v,ak,hn,q,V,hA,ad,ht,J,hr⟩:=xAW (ρc:=a.eval) hs.heap hs.base.size (fun x=>hs.eval x) hi
   have Y:Mv w A M w' A' M':=⟨q.size,ad,fun b hb h=>(hA b hb).1 h,fun b hb h _=>(hA b hb).2 h,V,ht⟩
   have:=hK v w' A' M' (hs.put (hs.base.trans q) (fun b hb=>(hA b (Nat.lt_of_lt_of_le hb hs.base.size)).trans (hs.outer b hb)) Y J hr) Y
   unfold Oper.wp;rw [ak];rcases hn with rfl|⟨rfl,rfl⟩
   . exact this
   . exact this
 . unfold xIW at D;split at D
   case h_2=>simp at D
   rename_i fo am;split at D
   case h_2=>simp at D
   rename_i g' an aq;split at D
   . simp at D
   rename_i ay;simp only [z6,zb] at D;obtain ⟨rfl,rfl⟩:=D;have Z:=hs.eval fo;rw [aq] at Z;obtain ⟨cv,ax,au,a1⟩:=Z.func_inv ay;have al:=xmS (w:=w) (A:=A) (M:=M) (l:=c.args.toList) (ρc:=a.eval) (ρ:=s.eval) (fun x _=>hs.eval x)
   have az:RC w A M (c.args.toList.map a.eval++cv.toList) (c.args.toList.map s.eval++an):=RC.append ⟨al.1,al.2⟩ ⟨by simpa using au,fun i hi=>by have:=a1 i hi;simpa [z7,zv] using this⟩
   unfold Oper.wp;rw [xoU ho am ax hg.1,Oper.upon_enter];refine (xy4 hI hs.base hs.heap az a0 W hg).mono ?_;rintro e w' ⟨v,A',M',rfl,q,ai,Y,J,hr⟩;exact hK v w' A' M' (hs.put q (fun b hb=>(ai b hb).trans (hs.outer b hb)) Y J hr) Y
 . obtain ⟨aa,e1,e2,e3⟩:=ao;have ae:HSub s1.heap (s1.heap++nb.toList):=HSub.append _ _;have W:HSub s.heap (s1.heap++nb.toList):=by
    refine HSub.trans ?_ ae;rw [e1];exact HSub.freeze _ _
   have ag:s1.heap.length=s.heap.length:=by rw [e1,xjw]
   obtain ⟨A1,O,ac⟩:=hs.refreeze W;have Z:∀ id:Id,id.base∈aa->∀ m,M id=some m->0<m.cap->¬ A1 m.b:=fun id af m hm h0 hA=>by
    obtain ⟨bx,a2,aw⟩:=O.heap.box id m hm;obtain ⟨aj,g1,_⟩:=hs.heap.box id m hm;have h1:getB s1.heap id=some { aj with frz:=true }:=by
     rw [e1,xn9,g1];simp only [Option.map_some,frzIf,List.contains_iff_mem.2 af,if_true]
    have h2:getB (s1.heap++nb.toList) id=some { aj with frz:=true }:=xq9 h1;have h2':getB (s1.heap++nb.toList) id=some bx:=a2;rw [h2] at h2';simp only [z6] at h2';have:=(aw.guard h0).2 hA;rw [<-h2'] at this;simp at this
   have hρ:∀ y,y∈o.op.operands.toList->Rel w A1 M (a.eval y) (s1.eval y):=fun y _=>by
    have key:∀ t,s1.eval (.tmp t)=s.eval (.tmp t)\/(resolve s.heap xIs (s.eval (.tmp t))=some (s1.eval (.tmp t))/\∀ id,id∈reach s.heap xIs (s.eval (.tmp t))->id∈aa):=fun t=>e3 t
    have h0:Rel w A1 M (a.eval y) (s.eval y):=by have:=O.eval y;cases y<;>exact this
    cases y with
    | tmp t =>
     rcases key t with h|⟨h,af⟩
     . rw [h];exact h0
     . exact (xcV hs.heap (A':=A1) (fun b hb h=>ac.less b hb h) xIs _ _ _ (hs.eval (.tmp t)) h fun id ah m hm h0=>Z id (af id.base ah) m hm h0).lift M
    | const v=>exact h0
    | global g=>exact h0
    | func f=>exact h0
   obtain ⟨x',hx,a3⟩:=xrV (P:=P) (Inv:=Inv) (s:=s1) (s':=⟨putT s1.tmps o.dst x,s1.heap++nb.toList⟩) (w:=w) (A:=A1) (M:=M) (B:=w0.heap.size) (a:=a) (K:=K) (Q:=Q) (o:=o) (.inl ⟨x,nb,.inl hf,rfl⟩) (HSub.refl _) O.heap hs.base.size (hs.inv ap hI) hρ
    (fun _=>by rw [ag];exact hs.heap.free_of_length (zd _))
   refine a3 fun v w' A' M' q V hA hM ht J hr=>?_
   have ab:Mv w A1 M w' A' M':=⟨q.size,fun b hb _=>q.block b hb,fun b hb h=>(hA b hb).1 h,fun b hb h _=>(hA b hb).2 h,V,ht⟩
   have:=O.put (d:=o.dst) (hs.base.trans (q.mono hs.base.size)) (fun b hb=>(hA b (Nat.lt_of_lt_of_le hb hs.base.size)).trans (O.outer b hb)) ab J hr
   refine hK v w' A' M' ?_ (ac.trans ab);have e:putT s.tmps o.dst x=putT s.tmps o.dst x':=xCE e2 hx;rw [e];exact this
def SR.settle {s s1:St} {a:Act} (hs:SR w0 A0 w A M s a) (aa:Settled s s1):∃ A1,SR w0 A0 w A1 M s1 a/\Mv w A M w A1 M:=by
 obtain ⟨O,e1,e2,e3⟩:=aa;have W:HSub s.heap s1.heap:=by rw [e1];exact HSub.freeze _ _
 obtain ⟨A1,q,D⟩:=hs.refreeze W;have Y:∀ id:Id,id.base∈O->∀ m,M id=some m->0<m.cap->¬ A1 m.b:=fun id J m hm h0 hA=>by
  obtain ⟨bx,ac,ab⟩:=q.heap.box id m hm;obtain ⟨Z,g1,_⟩:=hs.heap.box id m hm;have h1:getB s1.heap id=some { Z with frz:=true }:=by
   rw [e1,xn9,g1];simp only [Option.map_some,frzIf,List.contains_iff_mem.2 J,if_true]
  have h2':getB s1.heap id=some bx:=ac;rw [h1] at h2';simp only [z6] at h2';have:=(ab.guard h0).2 hA;rw [<-h2'] at this;simp at this
 refine ⟨A1,⟨q.base,q.outer,q.size.trans e2.symm,fun t ht=>?_,q.heap,q.defers,q.ev⟩,D⟩
 rw [e2] at ht;rcases e3 t with h|⟨h,J⟩
 . rw [h];exact q.tmps t ht
 . exact (xcV hs.heap (A':=A1) (fun b hb h=>D.less b hb h) xIs _ _ _ (hs.tmps t ht) h fun id V m hm h0=>Y id (J id.base V) m hm h0).lift M
def xvx (O:InvOk Inv) (hI:Inv w0) {s s':St} {o:Oper} {a:Act} (h:OpI P Inv s o s') (hs:SR w0 A0 w A M s a) {K:Act->World->Prop} {Q:Exit->Act->World->Prop}
  (hK:∀ v w' A' M',SR w0 A0 w' A' M' s' (a.put o.dst v)->Mv w A M w' A' M'->K (a.put o.dst v) w'):o.wp P a w K Q:=by
 rcases h with h|⟨s1,⟨n,bx,h1,h2,aa,h3,rfl⟩,h⟩|⟨s1,x,H',Y,hi,rfl⟩
 . exact xqn O hI h hs hK
 . obtain ⟨A1,M1,g1,g2,g3⟩:=hs.heap.unmark h1 h2 aa h3;have V:SR w0 A0 w A1 M1 ⟨s.tmps,s.heap.set n ⟨bx.ver,bx.sz,rty bx.ty,bx.xs,bx.frz,true⟩⟩ a:=⟨hs.base,fun b hb=>⟨fun h=>(hs.outer b hb).1 (g2.less b (Nat.lt_of_lt_of_le hb hs.base.size) h),fun h=>g3 b hb ((hs.outer b hb).2 h)⟩,hs.size,fun t ht=>g2.rel (hs.tmps t ht),g1,hs.defers,hs.ev.step g2⟩
   exact xqn O hI h V fun v w' A' M' k1 k2=>hK v w' A' M' k1 (g2.trans k2)
 . obtain ⟨A1,V,W⟩:=hs.settle Y;have D:s1.tmps.length=s.tmps.length:=Y.choose_spec.2.1;refine xqn O hI (.inl ⟨x,H',hi,rfl⟩) V fun v w' A' M' k1 k2=>hK v w' A' M' ?_ (W.trans k2)
   have hm:=W.trans k2;have q:∀ t,t<s.tmps.length->Rel w' A' M' (a.tmps.getD t undef) (s.tmps.getD t .top):=fun t ht=>hm.rel (hs.tmps t ht)
   have J:(a.put o.dst v).tmps.size=(putT s.tmps o.dst x).length/\∀ t,t<(putT s.tmps o.dst x).length->Rel w' A' M' ((a.put o.dst v).tmps.getD t undef) ((putT s.tmps o.dst x).getD t .top):=by
    have hk:=k1.tmps;revert hk;cases o.dst with
    | none=>intro _;exact ⟨hs.size,q⟩
    | some d =>
     intro hk;by_cases hd:d<s.tmps.length
     . refine xtA hs.size q ?_;have:=hk d (by simp [putT,D,hd])
       have e1:(a.tmps.setIfInBounds d v).getD d undef=v:=by simp [zv,hs.size,hd]
       have e2:(s1.tmps.set d x).getD d .top=x:=by simp [z7,D,hd]
       simp only [Act.put,putT] at this;rw [e1,e2] at this;exact this
     . have e1:(a.put (some d) v).tmps=a.tmps:=by
        simp only [Act.put];apply Array.ext_getElem?;intro i;rw [Array.getElem?_setIfInBounds];by_cases Z:d=i
        . subst Z;rw [if_pos rfl,if_neg (by rw [hs.size];exact hd),Array.getElem?_eq_none (by rw [hs.size];exact Nat.le_of_not_lt hd)]
        . rw [if_neg Z]
       have e2:putT s.tmps (some d) x=s.tmps:=List.set_eq_of_length_le (Nat.le_of_not_lt hd);rw [e1,e2];exact ⟨hs.size,q⟩
   exact ⟨k1.base,k1.outer,J.1,J.2,k1.heap,k1.defers,k1.ev⟩
def xD3 (q:InvOk Inv) (hI:Inv w0) {s s':St} {o:Oper} {a:Act} (h:OpI P Inv s o s') (hs:SR w0 A0 w A M s a) {K:Act->World->Prop} {Q:Exit->Act->World->Prop} (hK:∀ a' w',SOk w0 A0 s' a' w'->K a' w'):o.wp P a w K Q :=
 xvx q hI h hs fun _ _ A' M' h _=>hK _ _ ⟨A',M',h⟩
end
end Go.Sim
namespace Go.Sim
open Go.RowKit
def ayield (ops:Array Oper) (ts:List AV) (j:Nat):Option (Option Bool) :=
 match (ops[j]?).bind (·.dst) with
 | none=>some none
 | some d=>match ts[d]? with
  | none=>some none
  | some (.bool b)=>some (some b)
  | some (.tuple _)=>some none
  | _=>none
def xIj (ops:Array Oper) (ts:List AV) (o:Oper):Option Bool :=
 match o.guard with
 | none=>some true
 | some (j,want)=>match ayield ops ts j with
  | some y=>some (y==some want)
  | none=>none
inductive Path (Step:St->Oper->St->Prop) (ops:Array Oper):List Oper->St->St->Prop where
 | nil (s:St):Path Step ops [] s s
 | run {o:Oper} {rest:List Oper} {s s1 s2:St} (hw:xIj ops s.tmps o=some true) (h:Step s o s1) (hr:Path Step ops rest s1 s2):Path Step ops (o::rest) s s2
 | skip {o:Oper} {rest:List Oper} {s s2:St} (hw:xIj ops s.tmps o=some false) (hr:Path Step ops rest ⟨putT s.tmps o.dst (.tuple []),s.heap⟩ s2):Path Step ops (o::rest) s s2
def OpA (P:Program) (Inv:IV) (s:St) (o:Oper) (s':St):Prop:=OpF P Inv s o s'\/OpI P Inv s o s'
section
variable {P : Program} {Inv : IV} {w0 w : World} {A0 : Cx} {A : Nat -> Prop} {M : Id -> Option MB} {ops : Array Oper}
def xfd {ts:List AV} {a:Act} {o:Oper} {b:Bool} (hsz:a.tmps.size=ts.length) (hr:∀ j D d,o.guard=some (j,D)->(ops[j]?).bind (·.dst)=some d->d<ts.length->Rel w A M (a.tmps.getD d undef) (ts.getD d .top)) (h:xIj ops ts o=some b) :
  Region.wanted o (yielded ops a.tmps)=b:=by
 unfold xIj at h;unfold Region.wanted;split at h
 . rename_i hg;simp only [z6] at h;simp [hg,h]
 . rename_i j D hg;simp only [hg];split at h
   case h_2=>simp at h
   rename_i y hy;simp only [z6] at h;rw [<-h];congr 1;unfold ayield at hy;unfold yielded;split at hy
   . rename_i hd;simp only [z6] at hy;rw [hd,<-hy];rfl
   . rename_i d hd;rw [hd];simp only [Option.bind_some];by_cases q:d<ts.length
     . have:=hr j D d hg hd q;have hlt':d<a.tmps.size:=by rw [hsz];exact q
       rw [zf q] at hy;have e:ts.getD d .top=ts[d]:=by simp [z7,q]
       rw [e] at this;have e2:a.tmps[d]?=some (a.tmps.getD d undef):=by simp [hlt']
       rw [e2];split at hy
       . rename_i hq;simp at hq
       . rename_i b' hq;simp only [z6] at hq hy;rw [hq] at this;rw [this.bool_inv,<-hy]
       . rename_i vs hq;simp only [z6] at hq hy;rw [hq] at this;obtain ⟨us,hu,_⟩:=this.tuple_inv;rw [hu,<-hy]
       . simp at hy
     . rw [zA (Nat.le_of_not_lt q)] at hy;simp only [z6] at hy;rw [Array.getElem?_eq_none (by rw [hsz];exact Nat.le_of_not_lt q),<-hy]
def SR.skip {s:St} {a:Act} (hs:SR w0 A0 w A M s a) (d:Option Tmp):SR w0 A0 w A M ⟨putT s.tmps d (.tuple []),s.heap⟩ (a.put d undef):=by
 obtain ⟨p1,p2⟩:=xtA (d:=d) hs.size hs.tmps (Rel.tuple (w:=w) (A:=A) (M:=M) #[] [] rfl (by simp))
 exact ⟨hs.base,hs.outer,p1,p2,hs.heap,by rw [xg6];exact hs.defers,hs.ev⟩
def xD1 (q:InvOk Inv) (hI:Inv w0) {s s':St} {o:Oper} {a:Act} (h:OpA P Inv s o s') (hs:SR w0 A0 w A M s a) {K:Act->World->Prop} {Q:Exit->Act->World->Prop} (hK:∀ a' w',SOk w0 A0 s' a' w'->K a' w'):o.wp P a w K Q:=by
 rcases h with h|h
 . exact xD2 q hI h hs hK
 . exact xD3 q hI h hs hK
def xik (q:InvOk Inv) (hI:Inv w0) {s s':St} {o:Oper} {a:Act} (h:OpA P Inv s o s') (hs:SR w0 A0 w A M s a) {K:Act->World->Prop} {Q:Exit->Act->World->Prop}
  (hK:∀ v w' A' M',SR w0 A0 w' A' M' s' (a.put o.dst v)->Mv w A M w' A' M'->K (a.put o.dst v) w'):o.wp P a w K Q:=by
 rcases h with h|h
 . exact xvZ q hI h hs hK
 . exact xvx q hI h hs hK
def xCs {s s':St} {o:Oper} (h:OpA P Inv s o s'):∃ x,s'.tmps=putT s.tmps o.dst x:=by
 rcases h with (⟨x,nb,_,rfl⟩|⟨c,g,args,q,r,_,_,_,_,rfl⟩|⟨c,g,args,q,v,k,bx,_,_,_,_,_,_,rfl⟩)|((⟨x,H',_,rfl⟩|⟨c,g,args,ids,H0,r0,H0',_,_,_,_,_,rfl⟩|⟨s1,x,nb,_,_,rfl⟩)|⟨s1,⟨n,bx,_,_,_,_,rfl⟩,(⟨x,H',_,rfl⟩|⟨c,g,args,ids,H0,r0,H0',_,_,_,_,_,rfl⟩|⟨s1,x,nb,_,_,rfl⟩)⟩|⟨s1,x,H',_,_,rfl⟩)<;>exact ⟨_,rfl⟩
def xsA (O:InvOk Inv) (hI:Inv w0) {Q:Exit->Act->World->Prop} {l:List Oper} {s s':St} (hp:Path (OpA P Inv) ops l s s'):∀ {w:World} {A:Nat->Prop} {M:Id->Option MB} {a:Act},SR w0 A0 w A M s a->(∀ a' w',SOk w0 A0 s' a' w'->Q .normal a' w')->wpList P ops Q l a w:=by
 induction hp with
 | nil s=>intro w A M a hs hQ;exact hQ a w ⟨A,M,hs⟩
 | run hw h hr ih =>
  intro w A M a hs hQ;have D:=xfd (w:=w) (A:=A) (M:=M) hs.size (fun j J d _ _ q=>hs.tmps d q) hw
  unfold wpList;rw [if_pos D];exact .inl (xD1 O hI h hs fun a' w' ⟨A',M',hs'⟩=>ih hs' hQ)
 | skip hw hr ih =>
  intro w A M a hs hQ;have D:=xfd (w:=w) (A:=A) (M:=M) hs.size (fun j J d _ _ q=>hs.tmps d q) hw
  unfold wpList;rw [if_neg (by rw [D];simp)]
  exact ih (hs.skip _) hQ
def wideR (ro:Option Nat):Fence:={ Fence.wide with round:=ro }
def xsc (ro:Option Nat) (f:FuncId):(wideR ro).fn f:=trivial
def xpr (ro:Option Nat) (n:Nat):(wideR ro).room n:=fun d h=>by simp [wideR,Fence.wide] at h
def xrv {ro:Option Nat} {p:Prop}:(wideR ro).depth.isSome=true->p:=fun h=>by simp [wideR,Fence.wide] at h
def xlE (ro:Option Nat) (P:Program) (m:Machine):Machine.fenced P (wideR ro) m:=fenced_wide P m
def xuF {ro:Option Nat} {n:Nat} {P:Program} {f:FuncId} {args:Array Value} {w:World} {R:Ending->World->Prop} (h:Calls P f args w R):CallsIn (wideR ro) n P f args w R :=
 have h1:CallsIn Fence.wide n P f args w R:=callsIn_wide.2 h
 h1
def xv7 {ro:Option Nat} {n:Nat} {P:Program} {row:String} {args:Array Value} {w:World} {R:Value->World->Prop} (h:Rows P row args w R):RowsIn (wideR ro) n P row args w R:=by
 intro c cs _;obtain ⟨v,w',h1,h2⟩:=h c cs;exact ⟨v,w',h1,(StepsIn.of_steps h2).mono fun m _=>xlE ro P m⟩
def onlyN (Q:Exit->Act->World->Prop):Exit->Act->World->Prop
 | .normal,a,w=>Q .normal a w
 | _,_,_=>False
def xo7 {Q:Exit->Act->World->Prop}:¬ LetsOut (onlyN Q):=fun ⟨_,_,h⟩=>h
def xs5 {P:Program} {ro:Option Nat} {n:Nat} {o:Oper} {a:Act} {w:World} {K K':Act->World->Prop} {Q:Exit->Act->World->Prop} (hd:∀ c,o.op≠.defer c) (hK:∀ a w,K a w->K' a w) (h:o.wp P a w K (onlyN Q)):o.wpIn (wideR ro) n P a w K' Q:=by
 refine ⟨fun _ _=>trivial,?_⟩
 rw [Oper.semAt_eq _ _ _ hd];unfold Oper.wp at h;generalize (execOp a.eval o).run P w=r at h;cases r with
 | ok x w' =>
  cases x with
  | enter f args=>exact ⟨xrv,xuF ((show Calls P f args w' _ from h).mono fun e q he=>by
   cases e with
   | returned v=>exact hK _ _ he
   | panicked ch=>exact he.elim
   | outgrown=>exact (xo7 he).elim)⟩
  | row r args=>exact ⟨xrv,xv7 ((show Rows P r args w' _ from h).mono fun v q he=>hK _ _ he)⟩
  | value v=>exact hK _ _ h
  | skip=>exact hK _ _ h
  | defer d=>exact hK _ _ h
  | _=>exact (show False from h).elim
 | halt x w' =>
  cases x with
  | panic v=>exact (show False from h).elim
  | _=>exact (show False from h).elim
def noDefer (ops:Array Oper):Bool:=ops.toList.all fun o=>match o.op with
 | .defer _=>false
 | _=>true
def xcQ {ops:Array Oper} (h:noDefer ops=true):∀ o,o∈ops.toList->∀ c,o.op≠.defer c:=fun o ho c e=>by
 have:=zJ.1 h o ho;simp only [e] at this;exact absurd this (by simp)
def xey {P:Program} {ops:Array Oper} {Q:Exit->Act->World->Prop} (ro:Option Nat) (n:Nat):∀ (l:List Oper),(∀ o,o∈l->∀ c,o.op≠.defer c)->∀ a w,wpList P ops (onlyN Q) l a w->wpListIn (wideR ro) n P ops Q l a w
 | [],_,a,w,h=>h
 | o::l,hd,a,w,h=>by
  unfold wpList at h;unfold wpListIn;split at h
  . rename_i hw;rw [if_pos hw];rcases h with h|h
    . exact xs5 (hd o (by simp)) (xey ro n l fun o ho=>hd o (by simp [ho])) h
    . exact (xo7 h.2).elim
  . rename_i hw;rw [if_neg hw];exact ⟨fun _ _=>trivial,xey ro n l (fun o ho=>hd o (by simp [ho])) _ _ h⟩
def xps {P:Program} {md:Region.Mode} {ops:Array Oper} {Q:Exit->Act->World->Prop} (ro:Option Nat) (n:Nat) (hd:∀ o,o∈ops.toList->∀ c,o.op≠.defer c):∀ (fuel:Nat) (listed:Array Bool) a w,wpAny P md ops (onlyN Q) fuel listed a w->wpAnyIn (wideR ro) n P md ops Q fuel listed a w
 | 0,listed,a,w,h=>h
 | fuel+1,listed,a,w,h=>by
  refine ⟨h.1,fun i hi=>?_⟩
  have h2:=h.2 i hi;unfold wpOp at h2;unfold wpOpIn;cases ho:ops[i]? with
  | none=>simp only [ho] at h2 |-;exact xps ro n hd fuel _ _ _ h2
  | some o =>
   simp only [ho] at h2 |-;have hm:o∈ops.toList:=by
    obtain ⟨q,he⟩:=Array.getElem?_eq_some_iff.1 ho;rw [<-he];simp
   split at h2
   . rename_i hw;rw [if_pos hw];rcases h2 with h2|h2
     . exact xs5 (hd o hm) (fun a w h=>xps ro n hd fuel _ _ _ h) h2
     . exact (xo7 h2.2).elim
   . rename_i hw;rw [if_neg hw];exact ⟨fun _ _=>trivial,xps ro n hd fuel _ _ _ h2⟩
def xzC (q:InvOk Inv) (hI:Inv w0) {Q:Exit->Act->World->Prop} {id:Nat} (D:noDefer ops=true) {s s':St} {a:Act} (hp:Path (OpA P Inv) ops ops.toList s s') (hs:SR w0 A0 w A M s a) (hQ:∀ a' w',SOk w0 A0 s' a' w'->Q .normal a' w') (ro:Option Nat):(Code.region id ops false).wpIn (wideR ro) 0 P Q a w :=
 wpIn_region_list (xey ro 0 _ (xcQ D) _ _ (xsA q hI hp hs hQ))
def edges (o:Oper):List Nat:=(o.after.toList.filter fun e=>Region.binds .any e).map (·.on)
def xIF (ops:Array Oper) (i:Nat):Option Tmp:=(ops[i]?).bind (·.dst)
def floatOp (w:Bool):Op->Bool
 | .load ..=>w
 | .fieldAddr ..=>w
 | .indexAddr ..=>w
 | .move _=>true
 | .pick ..=>true
 | .binOp ..=>true
 | .unOp ..=>true
 | .convert ..=>true
 | .extract ..=>true
 | .field ..=>true
 | .build ..=>true
 | _=>false
def maskOf (q:List Nat) (o:Oper):Nat:=(edges o).foldl (fun s e=>s ||| 2 ^ e ||| q.getD e 0) 0
def xIY:List Oper->List Nat->List Nat
 | [],acc=>acc
 | o::l,acc=>xIY l (acc++[maskOf acc o])
def masks (ops:Array Oper):List Nat:=xIY ops.toList []
def xIz (w:Bool) (ops:Array Oper) (m i:Nat):Bool:=match ops[i]? with
 | some o=>floatOp w o.op&&(((List.range ops.size).any fun j=>decide (m<=j)&&!((masks ops).getD j 0).testBit i)&&(List.range ops.size).all fun j=>decide (j<m) || ((match o.dst with|some d=>xIF ops j != some d|none=>true)&&(o.looksAt ops).all fun t=>xIF ops j != some t) || ((masks ops).getD j 0).testBit i)
 | none=>false
def regOk (w:Bool) (ops:Array Oper) (m:Nat):Bool :=
 (List.range ops.size).all fun j =>
  match ops[j]? with
  | none=>true
  | some o =>
   (edges o).all (fun i=>decide (i<j)) &&
   (
    if j<m then
     (match o.dst with|some d=>(List.range m).all fun i=>i==j || xIF ops i != some d|none=>true) &&
     (o.looksAt ops).all fun t=>(List.range m).all fun i=>xIF ops i != some t || (edges o).contains i
    else (List.range j).all fun i=>((masks ops).getD j 0).testBit i || (decide (i<m)&&xIz w ops m i))
def xmN {w:Bool} {m:Nat} (h:regOk w ops m=true) {j:Nat} {o:Oper} (ho:ops[j]?=some o) :
 (∀ i,i∈edges o->i<j) /\
 (j<m->(∀ d,o.dst=some d->∀ i,i<m->xIF ops i=some d->i=j)/\∀ t,t∈o.looksAt ops->∀ i,i<m->xIF ops i=some t->i∈edges o) /\
 (m<=j->∀ i,i<j->((masks ops).getD j 0).testBit i=true\/(i<m/\xIz w ops m i=true)):=by unfold regOk at *;(repeat' split at ho)<;>(try simp_all)<;>grind
def xid {w:Bool} {m i:Nat} (h:xIz w ops m i=true):∃ o,ops[i]?=some o/\floatOp w o.op=true/\∀ j,m<=j->j<ops.size->((masks ops).getD j 0).testBit i=true\/((∀ d,o.dst=some d->xIF ops j≠some d)/\∀ t,t∈o.looksAt ops->xIF ops j≠some t):=by unfold xIz at *;(repeat' split at h)<;>(try simp_all)<;>grind
def xtX {q:List Nat} {i:Nat}:∀ (l:List Nat) (z:Nat),(l.foldl (fun s e=>s ||| 2 ^ e ||| q.getD e 0) z).testBit i=true->z.testBit i=true\/∃ e,e∈l/\(i=e\/(q.getD e 0).testBit i=true)
 | [],z,h=>.inl h
 | a::l,z,h=>by
  simp only [List.foldl_cons] at h;rcases xtX l _ h with h|⟨e,he,h⟩
  . simp only [Nat.testBit_or,Bool.or_eq_true,Nat.testBit_two_pow,zm] at h;rcases h with (h|h)|h
    . exact .inl h
    . exact .inr ⟨a,by simp,.inl h.symm⟩
    . exact .inr ⟨a,by simp,.inr h⟩
  . exact .inr ⟨e,by simp [he],h⟩
def xmd:∀ (l:List Oper) (q:List Nat) (j:Nat),j<q.length->(xIY l q).getD j 0=q.getD j 0
 | [],q,j,_=>rfl
 | o::l,q,j,hj=>by
  simp only [xIY];rw [xmd l _ j (by simp;omega)]
  simp [z7,zQ,hj]
def xrg:∀ (l:List Oper) (q:List Nat) (j:Nat) (o:Oper),l[j]?=some o->∃ D,(xIY l q).getD (q.length+j) 0=maskOf D o/\D.length=q.length+j/\∀ e,e<D.length->D.getD e 0=(xIY l q).getD e 0
 | [],q,j,o,h=>by simp at h
 | o'::l,q,0,o,h=>by
  simp only [zZ,z6] at h;subst h;refine ⟨q,?_,rfl,fun e he=>(xmd _ q e he).symm⟩
  simp only [xIY];rw [xmd l _ _ (by simp)]
  simp [z7]
 | o'::l,q,j+1,o,h=>by
  obtain ⟨D,h1,h2,h3⟩:=xrg l (q++[maskOf q o']) j o (by simpa using h)
  simp only [z8,zG,List.length_nil] at h1 h2;refine ⟨D,?_,by omega,h3⟩
  simp only [xIY];rw [<-h1];congr 1;omega
def xyw {L:Nat->Prop} (V:∀ j o,ops[j]?=some o->L j->∀ e,e∈edges o->L e):∀ (j:Nat) (o:Oper),ops[j]?=some o->(∀ e,e∈edges o->L e)->∀ i,((masks ops).getD j 0).testBit i=true->L i:=by
 intro j;induction j using Nat.strongRecOn with
 | _ j ih =>
  intro o ho he i hi;obtain ⟨q,h1,h2,h3⟩:=xrg ops.toList [] j o (by simpa using ho)
  simp only [List.length_nil,zI] at h1 h2;have h1':(masks ops).getD j 0=maskOf q o:=h1;rw [h1'] at hi;rcases xtX _ _ hi with h|⟨e,hm,h⟩
  . simp at h
  . rcases h with rfl|h
    . exact he i hm
    . by_cases J:e<j
      . rw [h3 e (by omega)] at h
        have O:e<ops.size:=by
         have:j<ops.size:=by
          rcases zK j ops.size with h'|h'
          . exact h'
          . rw [Array.getElem?_eq_none h'] at ho;simp at ho
         omega
        have D:ops[e]?=some ops[e]:=by simp [O]
        exact ih e J _ D (V e _ D (he e hm)) i h
      . have:q.getD e 0=0:=by simp [z7,zA (show q.length<=e by omega)]
        rw [this] at h;simp at h
def outT (ops:Array Oper) (m mk:Nat):List Nat:=(List.range m).filterMap fun i=>match mk.testBit i with
 | true=>none
 | false=>xIF ops i
def maskT:List Nat->List AV->List AV
 | [],ts=>ts
 | d::ds,ts=>maskT ds (ts.set d .top)
def restT:List Nat->List AV->List AV->List AV
 | [],_,ts=>ts
 | d::ds,old,ts=>restT ds old (ts.set d (old.getD d .top))
def xkB:∀ (ml:List Nat) (ts:List AV),(maskT ml ts).length=ts.length
 | [],ts=>rfl
 | d::ds,ts=>by simp only [maskT];rw [xkB ds];simp
def xiq:∀ (ml:List Nat) (q ts:List AV),(restT ml q ts).length=ts.length
 | [],_,ts=>rfl
 | d::ds,q,ts=>by simp only [restT];rw [xiq ds];simp
def xcd {ts:List AV} {d t:Nat} {x:AV} (h:d≠t):(ts.set d x).getD t .top=ts.getD t .top:=by
 simp [z7,zY h]
def xcc {ts:List AV} {t:Nat} {x:AV} (h:t<ts.length):(ts.set t x).getD t .top=x:=by
 simp [z7,h]
def xqK {ts:List AV} {t:Nat} (h:ts.length<=t):ts.getD t .top=.top:=by
 simp [z7,zA h]
def xob:∀ {ml:List Nat} {ts:List AV} {t:Nat},t∉ml->(maskT ml ts).getD t .top=ts.getD t .top
 | [],ts,t,_=>rfl
 | d::ds,ts,t,h=>by
  simp only [zD,not_or] at h;simp only [maskT];rw [xob h.2,xcd (fun e=>h.1 e.symm)]
def xud:∀ {ml:List Nat} {ts:List AV} {t:Nat},ts.getD t .top=.top->(maskT ml ts).getD t .top=.top
 | [],ts,t,h=>h
 | d::ds,ts,t,h=>by
  simp only [maskT];refine xud ?_;by_cases hd:d=t
  . subst hd;by_cases q:d<ts.length
    . exact xcc q
    . simp [z7,zA (show (ts.set d .top).length<=d by simp;omega)]
  . rw [xcd hd];exact h
def xvU:∀ {ml:List Nat} {ts:List AV} {t:Nat},t∈ml->(maskT ml ts).getD t .top=.top
 | d::ds,ts,t,h=>by
  simp only [maskT];rcases zD.1 h with rfl|h
  . refine xud ?_;by_cases q:t<ts.length
    . exact xcc q
    . simp [z7,zA (show (ts.set t .top).length<=t by simp;omega)]
  . exact xvU h
def xlM:∀ {ml:List Nat} {q ts:List AV} {t:Nat},t∉ml->(restT ml q ts).getD t .top=ts.getD t .top
 | [],_,ts,t,_=>rfl
 | d::ds,q,ts,t,h=>by
  simp only [zD,not_or] at h;simp only [restT];rw [xlM h.2,xcd (fun e=>h.1 e.symm)]
def xr5:∀ {ml:List Nat} {D ts:List AV} {t:Nat},t∈ml->t<ts.length->(restT ml D ts).getD t .top=D.getD t .top
 | d::ds,D,ts,t,h,hlt=>by
  simp only [restT];by_cases q:t∈ds
  . exact xr5 q (by simpa using hlt)
  . rcases zD.1 h with rfl|h
    . rw [xlM q,xcc hlt]
    . exact absurd h q
inductive TPath (P:Program) (Inv:IV) (ops:Array Oper) (m:Nat):Nat->List Oper->St->St->Prop where
 | nil (k:Nat) (s:St):TPath P Inv ops m k [] s s
 | run {k:Nat} {o:Oper} {rest:List Oper} {s s1 s2:St} (ml:List Nat) (hml:ml=outT ops m ((masks ops).getD k 0)) (hw:xIj ops (maskT ml s.tmps) o=some true) (h:OpA P Inv ⟨maskT ml s.tmps,s.heap⟩ o s1)
  (hr:TPath P Inv ops m (k+1) rest ⟨restT ml s.tmps s1.tmps,s1.heap⟩ s2):TPath P Inv ops m k (o::rest) s s2
 | skip {k:Nat} {o:Oper} {rest:List Oper} {s s2:St} (ml:List Nat) (hml:ml=outT ops m ((masks ops).getD k 0)) (hw:xIj ops (maskT ml s.tmps) o=some false)
  (hr:TPath P Inv ops m (k+1) rest ⟨putT s.tmps o.dst (.tuple []),s.heap⟩ s2):TPath P Inv ops m k (o::rest) s s2
def ptrOk (ρ:Operand->AV):Op->Bool
 | .load _ a=>match ρ a with
  | .eptr ..=>true
  | .func ..=>true
  | _=>false
 | .fieldAddr _ x _=>match ρ x with
  | .eptr ..=>true
  | _=>false
 | .indexAddr _ x _=>match ρ x with
  | .eptr ..=>true
  | .list ..=>true
  | _=>false
 | _=>true
def xwM {ρ ρ':Operand->AV} {op:Op} (h:∀ a,a∈op.operands.toList->ρ' a=ρ a):ptrOk ρ' op=ptrOk ρ op:=by
 cases op with
 | load t a=>simp only [ptrOk,h a (by simp [Op.operands])]
 | fieldAddr t x f=>simp only [ptrOk,h x (by simp [Op.operands])]
 | indexAddr t x ix=>simp only [ptrOk,h x (by simp [Op.operands])]
 | _=>rfl
def xCA {ρ:Operand->AV} {op:Op} (h:floatOp false op=true):ptrOk ρ op=true:=by
 cases op<;>first|rfl|simp [floatOp] at h
def xmG (id:Id) (ver:Nat):xIb [] id ver=none:=by
 unfold xIb;cases id<;>simp [getB]
def xum {P:Program} {ρ:Operand->AV} {n:Nat} {op:Op} {r:AV×Option Box} (h:fop P ρ [] n op=some r):ptrOk ρ op=true:=by
 cases op with
 | load t a =>
  simp only [fop] at h;split at h
  case h_2=>simp at h
  split at h
  case h_2=>simp at h
  rename_i x hx;unfold xI0 at hx;simp only [ptrOk];cases hr:ρ a with
  | eptr=>rfl
  | func f cs=>rfl
  | own id ver i j=>rw [hr] at hx;simp [xmG] at hx
  | _=>rw [hr] at hx;simp at hx
 | fieldAddr t x f =>
  simp only [fop] at h;split at h
  case h_2=>simp at h
  rename_i r hx;unfold xIk at hx;simp only [ptrOk];cases hr:ρ x with
  | eptr=>rfl
  | own id ver i j=>rw [hr] at hx;simp only [xmG] at hx;(repeat' split at hx)<;>simp at hx
  | _=>rw [hr] at hx;simp only [] at hx;(repeat' split at hx)<;>simp at hx
 | indexAddr t x ix =>
  simp only [fop] at h;split at h
  case h_2=>simp at h
  rename_i r hx;unfold xIf at hx;simp only [ptrOk];cases hr:ρ x with
  | eptr=>rfl
  | list=>rfl
  | own id ver i j=>rw [hr] at hx;simp only [xmG] at hx;(repeat' split at hx)<;>simp_all
  | osl id ver i j=>rw [hr] at hx;simp only [xmG] at hx;(repeat' split at hx)<;>simp_all
  | _=>rw [hr] at hx;(repeat' split at hx)<;>simp_all
 | _=>rfl
def xqa {P:Program} {ρ ρ':Operand->AV} {H H':List Box} {n n':Nat} {op:Op} {x:AV} {nb:Option Box} {wf:Bool} (hf:floatOp wf op=true) (q:ptrOk ρ op=true) (hρ:∀ a,a∈op.operands.toList->ρ' a=ρ a) (h:fop P ρ H n op=some (x,nb)):nb=none/\fop P ρ' H' n' op=some (x,none):=by
 cases op with
 | load t a =>
  have e:=hρ a (by simp [Op.operands])
  simp only [fop] at h |-;rw [e];simp only [ptrOk] at q;cases hr:ρ a with
  | eptr sz xs i j =>
   rw [hr] at h;split at h
   case h_2=>simp at h
   rename_i ti D;simp only [xI0] at h |-;split at h
   case h_2=>simp at h
   rename_i y hy;simp only [z6,zb] at h;obtain ⟨rfl,rfl⟩:=h;simp only [hy];exact ⟨trivial,trivial⟩
  | func f cs =>
   rw [hr] at h;split at h
   case h_2=>simp at h
   rename_i ti D;simp only [xI0] at h |-;split at h
   case h_2=>simp at h
   rename_i y hy;simp only [z6,zb] at h;obtain ⟨rfl,rfl⟩:=h;simp only [hy];exact ⟨trivial,trivial⟩
  | _=>rw [hr] at q;simp at q
 | build t parts =>
  have e:(parts.toList.map fun p=>(p.1,ρ' p.2))=parts.toList.map fun p=>(p.1,ρ p.2):=List.map_congr_left fun p hp=>by rw [hρ p.2 (by simp [Op.operands];exact ⟨p.1,by simpa using hp⟩)]
  simp only [fop] at h |-;rw [e];split at h
  . rename_i r hr;simp only [z6,zb] at h;obtain ⟨rfl,rfl⟩:=h;simp only [hr];exact ⟨trivial,trivial⟩
  . simp at h
 | fieldAddr t x' f =>
  have e:=hρ x' (by simp [Op.operands])
  simp only [fop] at h |-;rw [e];simp only [ptrOk] at q;cases hr:ρ x' with
  | eptr sz xs i j =>
   rw [hr] at h;split at h
   case h_2=>simp at h
   rename_i y hy;have hy':xIk P H' t (.eptr sz xs i j) f=some y:=by
    rw [<-hy];rfl
   simp only [z6,zb] at h;obtain ⟨rfl,rfl⟩:=h;simp only [hy'];exact ⟨trivial,trivial⟩
  | _=>rw [hr] at q;simp at q
 | indexAddr t x' ix =>
  have e:=hρ x' (by simp [Op.operands])
  have e2:=hρ ix (by simp [Op.operands])
  simp only [fop] at h |-;rw [e,e2];simp only [ptrOk] at q;cases hr:ρ x' with
  | eptr sz xs i j =>
   rw [hr] at h;split at h
   case h_2=>simp at h
   rename_i y hy;have hy':xIf P H' t (.eptr sz xs i j) (ρ ix)=some y:=by
    rw [<-hy];unfold xIf;cases xH7 P t with
    | none=>rfl
    | some ti =>
     cases ρ ix with
     | int k n=>simp only [];cases ti.d<;>rfl
     | _=>rfl
   simp only [z6,zb] at h;obtain ⟨rfl,rfl⟩:=h;simp only [hy'];exact ⟨trivial,trivial⟩
  | list sz xs =>
   rw [hr] at h;split at h
   case h_2=>simp at h
   rename_i y hy;have hy':xIf P H' t (.list sz xs) (ρ ix)=some y:=by
    rw [<-hy];unfold xIf;cases xH7 P t with
    | none=>rfl
    | some ti =>
     cases ρ ix with
     | int k n=>simp only [];cases ti.d<;>rfl
     | _=>rfl
   simp only [z6,zb] at h;obtain ⟨rfl,rfl⟩:=h;simp only [hy'];exact ⟨trivial,trivial⟩
  | _=>rw [hr] at q;simp at q
 | move x' =>
  have e:=hρ x' (by simp [Op.operands])
  simp only [fop] at h |-;rw [e];simp only [z6,zb] at h;obtain ⟨rfl,rfl⟩:=h;exact ⟨rfl,rfl⟩
 | binOp b t x' y' t' =>
  have e1:=hρ x' (by simp [Op.operands])
  have e2:=hρ y' (by simp [Op.operands])
  simp only [fop] at h |-;rw [e1,e2];split at h
  . rename_i r hr;simp only [z6,zb] at h;obtain ⟨rfl,rfl⟩:=h;simp only [hr];exact ⟨trivial,trivial⟩
  . simp at h
 | unOp u t x' =>
  have e:=hρ x' (by simp [Op.operands])
  simp only [fop] at h |-;rw [e];split at h
  . rename_i r hr;simp only [z6,zb] at h;obtain ⟨rfl,rfl⟩:=h;simp only [hr];exact ⟨trivial,trivial⟩
  . simp at h
 | convert t t' x' =>
  have e:=hρ x' (by simp [Op.operands])
  simp only [fop] at h |-;rw [e];split at h
  . rename_i r hr;simp only [z6,zb] at h;obtain ⟨rfl,rfl⟩:=h;simp only [hr];exact ⟨trivial,trivial⟩
  . simp at h
 | extract x' i =>
  have e:=hρ x' (by simp [Op.operands])
  simp only [fop] at h |-;rw [e];split at h
  . rename_i vs J;split at h
    . rename_i v hv;simp only [z6,zb] at h;obtain ⟨rfl,rfl⟩:=h;simp only [J,hv];exact ⟨trivial,trivial⟩
    . simp at h
  . simp at h
 | field t x' f =>
  have e:=hρ x' (by simp [Op.operands])
  simp only [fop] at h |-;rw [e];split at h
  . rename_i r hr;simp only [z6,zb] at h;obtain ⟨rfl,rfl⟩:=h;simp only [hr];exact ⟨trivial,trivial⟩
  . simp at h
 | pick c a b =>
  have e1:=hρ c (by simp [Op.operands])
  have e2:=hρ a (by simp [Op.operands])
  have e3:=hρ b (by simp [Op.operands])
  simp only [fop] at h |-;rw [e1,e2,e3];split at h
  . simp only [z6,zb] at h;obtain ⟨rfl,rfl⟩:=h;exact ⟨rfl,rfl⟩
  . simp at h
 | _=>simp [floatOp] at hf
def xwL {Step:St->Oper->St->Prop} {l:List Oper} {s s':St} (hp:Path Step ops l s s') :
  ∃ st:Nat->St,st 0=s/\st l.length=s'/\∀ j o,l[j]?=some o->(xIj ops (st j).tmps o=some true/\Step (st j) o (st (j+1)))\/(xIj ops (st j).tmps o=some false/\st (j+1)=⟨putT (st j).tmps o.dst (.tuple []),(st j).heap⟩):=by
 induction hp with
 | nil s=>exact ⟨fun _=>s,rfl,rfl,fun j o h=>by simp at h⟩
 | @run o rest s s1 s2 hw h hr ih =>
  obtain ⟨st,h0,h1,h2⟩:=ih;refine ⟨fun k=>match k with|0=>s|k+1=>st k,rfl,h1,fun j o' q=>?_⟩
  cases j with
  | zero=>simp only [zZ,z6] at q;subst q;left;exact ⟨hw,by show Step s o (st 0);rw [h0];exact h⟩
  | succ j=>exact h2 j o' (by simpa using q)
 | @skip o rest s s2 hw hr ih =>
  obtain ⟨st,h0,h1,h2⟩:=ih;refine ⟨fun k=>match k with|0=>s|k+1=>st k,rfl,h1,fun j o' q=>?_⟩
  cases j with
  | zero=>simp only [zZ,z6] at q;subst q;right;exact ⟨hw,h0⟩
  | succ j=>exact h2 j o' (by simpa using q)
def xkT {ts:List AV} {d:Option Tmp} {x:AV} {t:Nat} (h:d≠some t):(putT ts d x).getD t .top=ts.getD t .top:=by unfold putT;grind
def xkS {ts:List AV} {x:AV} {t:Nat} (h:t<ts.length):(putT ts (some t) x).getD t .top=x:=by
 simp [putT,z7,h]
def xjg {ts:List AV} {d:Option Tmp} {x:AV}:(putT ts d x).length=ts.length:=by cases d<;>simp [putT]
def xAz {l:List Nat} {p q:Nat->Bool} (h:∀ x,x∈l->p x=true->q x=true) {y:Nat} (hy:y∈l) (h1:p y=false) (h2:q y=true):l.countP p<l.countP q:=by
 induction l with
 | nil=>simp at hy
 | cons x l ih =>
  have J:l.countP p<=l.countP q:=List.countP_mono_left fun z hz=>h z (by simp [hz])
  rcases zD.1 hy with rfl|D
  . simp only [List.countP_cons,h1,h2,if_true,zU,if_false];omega
  . have:=ih (fun z hz=>h z (by simp [hz])) D
    simp only [List.countP_cons];have hx:=h x (by simp)
    cases hp:p x<;>cases hq:q x<;>simp_all<;>omega
def xrm {wf:Bool} {m:Nat} (D:regOk wf ops m=true) {listed:Array Bool} (hsz:listed.size=ops.size) {j:Nat} (hj:j<ops.size) (hn:listed.getD j false=false) (q:∀ i,i<j->listed.getD i false=true):j∈Region.ready .any ops listed:=by
 rw [mem_ready];have J:j<listed.size:=by omega
 refine ⟨by simpa [J] using hn,ops[j],by simp [hj],fun e he hb=>?_⟩
 have:=(xmN D (j:=j) (o:=ops[j]) (by simp [hj])).1 e.on (zL.2 ⟨e,List.mem_filter.2 ⟨Array.mem_toList_iff.2 he,hb⟩,rfl⟩)
 exact q _ this
def xm0 {n:Nat} {p:Nat->Bool}:∀ k,k<=n->(∀ i,i<k->p i=true)->(∀ i,i<n->p i=true)\/∃ j,j<n/\p j=false/\∀ i,i<j->p i=true:=by
 intro k hk h;induction hd:n - k generalizing k with
 | zero=>exact .inl fun i hi=>h i (by omega)
 | succ d ih =>
  cases hp:p k with
  | false=>exact .inr ⟨k,by omega,hp,h⟩
  | true=>exact ih (k+1) (by omega) (fun i hi=>by rcases Nat.lt_or_eq_of_le (Nat.le_of_lt_succ hi) with h'|rfl;exact h i h';exact hp) (by omega)
def unl (n:Nat) (listed:Array Bool):Nat:=(List.range n).countP fun i=>!listed.getD i false
def xyP {n:Nat} {listed:Array Bool} (hsz:listed.size=n) {j:Nat} (hj:j<n) (hn:listed.getD j false=false):unl n (listed.setIfInBounds j true)<unl n listed:=by
 refine xAz (fun x hx hp=>?_) (List.mem_range.2 hj) ?_ (by simp [hn])
 . by_cases q:j=x
   . subst q;have:j<listed.size:=by omega
     simp [this] at hp
   . simpa [Array.getElem?_setIfInBounds_ne q] using hp
 . have:j<listed.size:=by omega
   simp [this]
def Lat (P:Program) (ops:Array Oper) (s:St) (o:Oper):Prop :=
 (xIj ops s.tmps o=some true/\∃ x,fop P s.eval [] 0 o.op=some (x,none)/\∀ d,o.dst=some d->d<s.tmps.length->s.tmps.getD d .top=x) \/
 (xIj ops s.tmps o=some false/\∀ d,o.dst=some d->d<s.tmps.length->s.tmps.getD d .top=.tuple [])
structure DB (P:Program) (ops:Array Oper) (m:Nat) (s:St) (w0:World) (A0:Cx) (listed:Array Bool) (w:World) (A:Nat->Prop) (M:Id->Option MB) (a:Act):Prop where
 base:Below w0.heap.size w0 w
 outer:∀ b,b<w0.heap.size->(A b↔A0.av b)
 size:a.tmps.size=s.tmps.length
 tmps:∀ t,t<s.tmps.length->(∀ i,i<m->xIF ops i=some t->listed.getD i false=true)->Rel w A M (a.tmps.getD t undef) (s.tmps.getD t .top)
 heap:HR w A M w0.heap.size s.heap
 defers:DefOk w0 A0 w a.defers
 ev:Ev A0 w A M
 later:∀ i o,i<m->ops[i]?=some o->listed.getD i false=false->Lat P ops s o
def xmc {o:Oper} {t:Tmp} (h:Operand.tmp t∈o.op.operands.toList):t∈o.looksAt ops:=by
 unfold Oper.looksAt;exact zH.2 (.inl (List.mem_filterMap.2 ⟨.tmp t,h,rfl⟩))
def xlI {o:Oper} {j:Nat} {q:Bool} {d:Tmp} (hg:o.guard=some (j,q)) (hd:(ops[j]?).bind (·.dst)=some d):d∈o.looksAt ops:=by
 unfold Oper.looksAt;refine zH.2 (.inr ?_);simp [hg,hd]
def xso {s s':St} {o:Oper} (h:∀ t,t∈o.looksAt ops->s'.tmps.getD t .top=s.tmps.getD t .top):∀ y,y∈o.op.operands.toList->s'.eval y=s.eval y:=fun y hy=>by
 cases y with
 | tmp t=>exact h t (xmc hy)
 | const v=>rfl
 | global g=>rfl
 | func f=>rfl
def xvc {ts q:List AV} {j:Nat} (hl:q.length=ts.length) (h:∀ d,(ops[j]?).bind (·.dst)=some d->q.getD d .top=ts.getD d .top):ayield ops q j=ayield ops ts j:=by
 unfold ayield;cases hd:(ops[j]?).bind (·.dst) with
 | none=>rfl
 | some d =>
  have e:=h d hd;have e2:q[d]?=ts[d]?:=by
   by_cases D:d<ts.length
   . have hlt':d<q.length:=by rw [hl];exact D
     simp only [z7,zf D,zf hlt',zi] at e |-;rw [e]
   . rw [zA (l:=q) (by rw [hl];exact Nat.le_of_not_lt D),zA (l:=ts) (Nat.le_of_not_lt D)]
  simp only [e2]
def xpy {s s':St} {o:Oper} (hl:s'.tmps.length=s.tmps.length) (h:∀ t,t∈o.looksAt ops->s'.tmps.getD t .top=s.tmps.getD t .top):xIj ops s'.tmps o=xIj ops s.tmps o:=by
 unfold xIj;cases hg:o.guard with
 | none=>rfl
 | some p =>
  obtain ⟨j,q⟩:=p;simp only;rw [xvc (ops:=ops) hl fun d hd=>h d (xlI hg hd)]
def xzL (b1:InvOk Inv) (hI:Inv w0) {Q:Exit->Act->World->Prop} {wf:Bool} {m:Nat} (be:regOk wf ops m=true) {s2:St} (hQ:∀ a' w',SOk w0 A0 s2 a' w'->Q .normal a' w') :
  ∀ (fuel k:Nat) (listed:Array Bool) (s:St) (w:World) (A:Nat->Prop) (M:Id->Option MB) (a:Act),m<=k->k<=ops.size->listed.size=ops.size ->
   (∀ i,m<=i->i<k->listed.getD i false=true)->(∀ i,k<=i->i<ops.size->listed.getD i false=false)->(∀ i,i<m->listed.getD i false=false->xIz wf ops m i=true) ->
   (∀ j o,ops[j]?=some o->listed.getD j false=true->∀ e,e∈edges o->listed.getD e false=true) ->
   unl ops.size listed<=fuel->TPath P Inv ops m k (ops.toList.drop k) s s2->DB P ops m s w0 A0 listed w A M a->wpAny P .any ops Q fuel listed a w:=by
 intro fuel;induction fuel with
 | zero =>
  intro k listed s w A M a hm hk hsz h1 h2 h3 bb hf hp hd;have O:∀ i,i<ops.size->listed.getD i false=true:=by
   intro i hi;cases hl:listed.getD i false with
   | true=>rfl
   | false =>
    have:0<unl ops.size listed:=List.countP_pos_iff.2 ⟨i,List.mem_range.2 hi,by simp only [hl];rfl⟩
    omega
  have a1:k=ops.size:=by
   rcases Nat.lt_or_eq_of_le hk with h|h
   . have:=h2 k (zd _) h;rw [O k h] at this;simp at this
   . exact h
  subst a1;have an:ops.toList.drop ops.size=[]:=zr (by simp)
  rw [an] at hp;cases hp;refine ⟨?_,hQ a w ⟨A,M,hd.base,hd.outer,hd.size,fun t ht=>hd.tmps t ht fun i hi _=>O i (by omega),hd.heap,hd.defers,hd.ev⟩⟩
  rw [List.eq_nil_iff_forall_not_mem];intro i hi;obtain ⟨hu,o,ho,_⟩:=mem_ready.1 hi;have hi':i<ops.size:=by
   rcases zK i ops.size with h'|h'
   . exact h'
   . rw [Array.getElem?_eq_none h'] at ho;simp at ho
  have:=O i hi';have ba:i<listed.size:=by omega
  simp [ba] at hu this;rw [this] at hu;simp at hu
 | succ fuel ih =>
  intro k listed s w A M a hm hk hsz h1 h2 h3 bb hf hp hd;rcases xm0 (n:=ops.size) (p:=fun i=>listed.getD i false) 0 (zR _) (fun i hi=>by omega) with O|⟨j0,bu,b3,bg⟩
  . have a1:k=ops.size:=by
     rcases Nat.lt_or_eq_of_le hk with h|h
     . have:=h2 k (zd _) h;have h':listed.getD k false=true:=O k h;rw [h'] at this;simp at this
     . exact h
    subst a1;have an:ops.toList.drop ops.size=[]:=zr (by simp)
    rw [an] at hp;cases hp;refine ⟨fun _=>hQ a w ⟨A,M,hd.base,hd.outer,hd.size,fun t ht=>hd.tmps t ht fun i hi _=>O i (by omega),hd.heap,hd.defers,hd.ev⟩,fun i hi=>?_⟩
    exfalso;obtain ⟨hu,o,ho,_⟩:=mem_ready.1 hi;have hi':i<ops.size:=by
     rcases zK i ops.size with h'|h'
     . exact h'
     . rw [Array.getElem?_eq_none h'] at ho;simp at ho
    have:=O i hi';have ba:i<listed.size:=by omega
    simp [ba] at hu this;rw [this] at hu;simp at hu
  have a0:=xrm be hsz bu b3 bg;refine ⟨fun h=>by rw [h] at a0;simp at a0,fun j hj=>?_⟩
  obtain ⟨hu,o,ho,O⟩:=mem_ready.1 hj;have ax:j<ops.size:=by
   rcases zK j ops.size with h'|h'
   . exact h'
   . rw [Array.getElem?_eq_none h'] at ho;simp at ho
  have a3:j<listed.size:=by omega
  have az:listed.getD j false=false:=by simpa [a3] using hu
  have ad:∀ i,i∈edges o->listed.getD i false=true:=by
   intro i hi;obtain ⟨e,he,b5⟩:=zL.1 hi;obtain ⟨bt,ca⟩:=List.mem_filter.1 he;have:=O e (Array.mem_toList_iff.1 bt) ca;rwa [b5] at this
  have a5:=xyw (L:=fun i=>listed.getD i false=true) bb j o ho ad
  obtain ⟨cb,b2,bd⟩:=xmN be ho;have hlist':∀ i,(listed.setIfInBounds j true).getD i false=true↔(i=j\/listed.getD i false=true):=by
   intro i;by_cases Y:j=i
   . subst Y;simp [a3]
   . have:¬ i=j:=fun e=>Y e.symm
     simp [Array.getElem?_setIfInBounds_ne Y,this]
  have D:∀ i,(listed.setIfInBounds j true).getD i false=false->i≠j/\listed.getD i false=false:=by
   intro i hi;by_cases Y:j=i
   . subst Y;simp [a3] at hi
   . exact ⟨fun e=>Y e.symm,by simpa [Array.getElem?_setIfInBounds_ne Y] using hi⟩
  have hfuel':unl ops.size (listed.setIfInBounds j true)<=fuel:=by
   have:=xyP hsz ax az;omega
  have hcl':∀ j' o',ops[j']?=some o'->(listed.setIfInBounds j true).getD j' false=true->∀ e,e∈edges o'->(listed.setIfInBounds j true).getD e false=true:=by
   intro j' o' al hl e he;rcases (hlist' j').1 hl with rfl|hl
   . rw [ho] at al;cases al;exact (hlist' e).2 (.inr (ad e he))
   . exact (hlist' e).2 (.inr (bb j' o' al hl e he))
  have W:∀ i,(listed.setIfInBounds j true).getD i false=false↔¬ (i=j\/listed.getD i false=true):=by
   intro i;rw [<-hlist'];cases (listed.setIfInBounds j true).getD i false<;>simp
  rcases zK j m with ab|ab
  ·
   obtain ⟨o',al,ap,b9⟩:=xid (h3 j ab az);rw [ho] at al;cases al;obtain ⟨bj,au⟩:=b2 ab;have bp:∀ jg aj d,o.guard=some (jg,aj)->(ops[jg]?).bind (·.dst)=some d->d<s.tmps.length->Rel w A M (a.tmps.getD d undef) (s.tmps.getD d .top):=fun jg aj d hg b0 J=>hd.tmps d J fun i hi he=>ad i (au d (xlI hg b0) i hi he)
   rcases hd.later j o ab ho az with ⟨ak,x,bh,a7⟩|⟨ak,a7⟩
   case inr =>
    have ag:=xfd (w:=w) (A:=A) (M:=M) hd.size bp ak;unfold wpOp;simp only [ho];rw [if_neg (by rw [ag];simp)]
    refine ih k (listed.setIfInBounds j true) s w A M (a.put o.dst undef) hm hk (by simp [hsz]) (fun i g1 g2=>(hlist' i).2 (.inr (h1 i g1 g2))) (fun i g1 g2=>(W i).2 (by rw [h2 i g1 g2];simp;omega)) (fun i g1 g2=>h3 i g1 (D i g2).2) hcl' hfuel' hp
     ⟨hd.base,hd.outer,?_,fun t q ae=>?_,hd.heap,by rw [xg6];exact hd.defers,hd.ev,fun i o' g1 g2 g3=>hd.later i o' g1 g2 (D i g3).2⟩
    . cases aa:o.dst with
      | none=>exact hd.size
      | some d=>simp [Act.put,hd.size]
    . by_cases V:o.dst=some t
      . have e1:(a.put o.dst undef).tmps.getD t undef=undef:=by
         have:t<a.tmps.size:=by rw [hd.size];exact q
         simp [Act.put,V,this]
        rw [e1,a7 t V q];exact Rel.tuple #[] [] rfl (by simp)
      . have e1:(a.put o.dst undef).tmps.getD t undef=a.tmps.getD t undef:=by
         cases aa:o.dst with
         | none=>rfl
         | some d =>
          have hne:d≠t:=fun e=>V (by rw [aa,e])
          simp [Act.put,Array.getElem?_setIfInBounds_ne hne]
        rw [e1];refine hd.tmps t q fun i hi he=>?_
        rcases (hlist' i).1 (ae i hi he) with rfl|h
        . exact absurd (by simpa [xIF,ho] using he) V
        . exact h
   have bl:=xfd (w:=w) (A:=A) (M:=M) hd.size bp ak;have a6:∀ y,y∈o.op.operands.toList->Rel w A M (a.eval y) (s.eval y):=fun y hy=>by
    cases y with
    | tmp t =>
     by_cases q:t<s.tmps.length
     . exact hd.tmps t q fun i hi he=>ad i (au t (xmc hy) i hi he)
     . have:s.eval (.tmp t)=.top:=by simp [St.eval,z7,zA (Nat.le_of_not_lt q)]
       rw [this];exact .top _
    | const v=>exact xcZ w A M v
    | global g=>exact .gptr g
    | func f=>exact .func f #[] [] rfl (by simp) (fun _=>rfl)
   have hfx':=(xqa (ρ':=s.eval) (H':=s.heap) (n':=s.heap.length) ap (xum bh) (fun _ _=>rfl) bh).2
   have hn':Free M s.heap.length:=hd.heap.free_of_length (zd _);obtain ⟨v,w',A',M',bk,ai,bi,hA,hM,bq,hr⟩:=xtZ (o:=o) (ρc:=a.eval) hfx' a6 hd.heap hd.base.size hn' (by simp)
   have aw:Mv w A M w' A' M':=⟨ai.size,fun b hb _=>ai.block b hb,fun b hb h=>(hA b hb).1 h,fun b hb h _=>(hA b hb).2 h,bi,.of_new ai fun id mm a8=>by
    by_cases bn:id=.b s.heap.length
    . subst bn;exact hM.2 mm a8
    . rw [hM.1 id bn] at a8;exact .inl a8⟩
   unfold wpOp;simp only [ho];have ag:Region.wanted o (yielded ops a.tmps)=true:=bl;rw [if_pos ag];left;unfold Oper.wp;rw [bk];refine ih k (listed.setIfInBounds j true) s w' A' M' (a.put o.dst v) hm hk (by simp [hsz]) (fun i g1 g2=>(hlist' i).2 (.inr (h1 i g1 g2))) (fun i g1 g2=>(W i).2 (by rw [h2 i g1 g2];simp;omega)) (fun i g1 g2=>h3 i g1 (D i g2).2) hcl' hfuel' hp
    ⟨hd.base.trans (ai.mono hd.base.size),fun b hb=>(hA b (Nat.lt_of_lt_of_le hb hd.base.size)).trans (hd.outer b hb),?_,fun t q ae=>?_,bq,by rw [xg6];exact hd.defers.mv hd.heap aw,hd.ev.step aw,fun i o' g1 g2 g3=>hd.later i o' g1 g2 (D i g3).2⟩
   . cases aa:o.dst with
     | none=>exact hd.size
     | some d=>simp [Act.put,hd.size]
   . by_cases V:o.dst=some t
     . have e1:(a.put o.dst v).tmps.getD t undef=v:=by
        have:t<a.tmps.size:=by rw [hd.size];exact q
        simp [Act.put,V,this]
       rw [e1,a7 t V q];exact hr
     . have e1:(a.put o.dst v).tmps.getD t undef=a.tmps.getD t undef:=by
        cases aa:o.dst with
        | none=>rfl
        | some d =>
         have hne:d≠t:=fun e=>V (by rw [aa,e])
         simp [Act.put,Array.getElem?_setIfInBounds_ne hne]
       rw [e1];refine aw.rel (hd.tmps t q fun i hi he=>?_)
       rcases (hlist' i).1 (ae i hi he) with rfl|h
       . exact absurd (by simpa [xIF,ho] using he) V
       . exact h
  ·
   have bz:j=k:=by
    rcases Nat.lt_trichotomy j k with J|b4|b6
    . have:=h1 j ab J;rw [az] at this;simp at this
    . exact b4
    . rcases bd ab k b6 with h|⟨h,_⟩
      . have:listed.getD k false=true:=a5 k h;rw [h2 k (zd _) (by omega)] at this;simp at this
      . omega
   subst bz;have a9:ops.toList.drop j=o::ops.toList.drop (j+1):=by
    rw [List.drop_eq_getElem_cons (by simpa using ax)]
    congr 1;have:ops[j]?=some ops[j]:=by simp [ax]
    rw [this] at ho;simpa using ho
   rw [a9] at hp;have hml:∀ t,t∈outT ops m ((masks ops).getD j 0)->∃ i,i<m/\xIF ops i=some t/\xIz wf ops m i=true/\((masks ops).getD j 0).testBit i=false:=fun t ht=>by
    unfold outT at ht;obtain ⟨i,hi,hit⟩:=List.mem_filterMap.1 ht;have b7:=List.mem_range.1 hi;split at hit
    . simp at hit
    . rename_i hb;refine ⟨i,b7,hit,?_⟩;rcases bd ab i (by omega) with h|h
      . rw [h] at hb;simp at hb
      . exact ⟨h.2,hb⟩
   have bv:∀ t,t∉outT ops m ((masks ops).getD j 0)->∀ i,i<m->xIF ops i=some t->listed.getD i false=true:=fun t ht i hi he=>by
    cases hb:((masks ops).getD j 0).testBit i with
    | true=>exact a5 i hb
    | false=>exact absurd (List.mem_filterMap.2 ⟨i,List.mem_range.2 hi,by rw [hb];exact he⟩) ht
   have bc:∀ t,t∈outT ops m ((masks ops).getD j 0)->o.dst≠some t:=fun t ht=>by
    obtain ⟨i,hi,he,ap,bw⟩:=hml t ht;obtain ⟨oi,ay,_,q⟩:=xid ap;rcases q j ab ax with hb|q
    . rw [bw] at hb;simp at hb
    have:=q.1 t (by simpa [xIF,ay] using he)
    simpa [xIF,ho] using this
   have aq:SR w0 A0 w A M ⟨maskT (outT ops m ((masks ops).getD j 0)) s.tmps,s.heap⟩ a:=by
    refine ⟨hd.base,hd.outer,by rw [xkB];exact hd.size,fun t ht=>?_,hd.heap,hd.defers,hd.ev⟩
    simp only [xkB] at ht;by_cases Z:t∈outT ops m ((masks ops).getD j 0)
    . simp only [xvU Z];exact .top _
    . simp only [xob Z];exact hd.tmps t ht (bv t Z)
   have ah:∀ (s':St),s'.tmps.length=s.tmps.length->(∀ t,o.dst≠some t->s'.tmps.getD t .top=s.tmps.getD t .top)->∀ i o',i<m->ops[i]?=some o'->(listed.setIfInBounds j true).getD i false=false->Lat P ops s' o':=by
    intro s' am ac i o' g1 g2 g3;have g4:=(D i g3).2;obtain ⟨oi,ay,ap,q⟩:=xid (h3 i g1 g4);rw [g2] at ay;cases ay;rcases q j ab ax with hb|⟨t1,t2⟩
    . have:=a5 i hb;rw [g4] at this;simp at this
    have b8:xIF ops j=o.dst:=by simp [xIF,ho]
    rw [b8] at t1 t2;have ak:=xpy (ops:=ops) (s:=s) (s':=s') (o:=o') am fun t ht=>ac t (t2 t ht)
    rcases hd.later i o' g1 g2 g4 with ⟨a4,x,bo,a2⟩|⟨a4,a2⟩
    . refine .inl ⟨ak.trans a4,x,(xqa ap (xum bo) (xso (ops:=ops) fun t ht=>ac t (t2 t ht)) bo).2,fun d ao J=>?_⟩
      rw [ac d (t1 d ao)];exact a2 d ao (by rw [<-am];exact J)
    . refine .inr ⟨ak.trans a4,fun d ao J=>?_⟩
      rw [ac d (t1 d ao)];exact a2 d ao (by rw [<-am];exact J)
   unfold wpOp;simp only [ho];cases hp with
   | @run _ _ _ _ s1 _ ml hmle hw h hr =>
    subst hmle;have ag:=xfd (w:=w) (A:=A) (M:=M) aq.size (fun jg aj d _ _ J=>aq.tmps d J) hw
    rw [if_pos ag];left;obtain ⟨x,hx⟩:=xCs h;have bf:s1.tmps.length=s.tmps.length:=by rw [hx,xjg,xkB]
    refine xik b1 hI h aq fun v w' A' M' af aw=>?_
    refine ih (j+1) (listed.setIfInBounds j true) _ w' A' M' (a.put o.dst v) (by omega) (by omega) (by simp [hsz]) (fun i g1 g2=>(hlist' i).2 (by
     by_cases Y:i=j
     . exact .inl Y
     . exact .inr (h1 i g1 (by omega)))) (fun i g1 g2=>(W i).2 (by rw [h2 i (by omega) g2];simp;omega)) (fun i g1 g2=>h3 i g1 (D i g2).2) hcl' hfuel' hr
     ⟨af.base,af.outer,by simp only [xiq];exact af.size,fun t q ae=>?_,af.heap,af.defers,af.ev,ah _ (by simp only [xiq];exact bf) fun t ht=>?_⟩
    . simp only [xiq] at q;by_cases Z:t∈outT ops m ((masks ops).getD j 0)
      . simp only [xr5 Z q];have e1:(a.put o.dst v).tmps.getD t undef=a.tmps.getD t undef:=by
         cases aa:o.dst with
         | none=>rfl
         | some d =>
          have hne:d≠t:=fun e=>bc t Z (by rw [aa,e])
          simp [Act.put,Array.getElem?_setIfInBounds_ne hne]
        rw [e1];refine aw.rel (hd.tmps t (by omega) fun i hi he=>?_)
        rcases (hlist' i).1 (ae i hi he) with rfl|h
        . omega
        . exact h
      . simp only [xlM Z];exact af.tmps t q
    . by_cases Z:t∈outT ops m ((masks ops).getD j 0)
      . by_cases J:t<s1.tmps.length
        . exact xr5 Z J
        . rw [xqK (show s.tmps.length<=t by rw [<-bf];exact Nat.le_of_not_lt J)]
          exact xqK (by simp only [xiq];exact Nat.le_of_not_lt J)
      . simp only [xlM Z];rw [hx,xkT ht,xob Z]
   | skip ml hmle hw hr =>
    subst hmle;have ag:=xfd (w:=w) (A:=A) (M:=M) aq.size (fun jg aj d _ _ J=>aq.tmps d J) hw
    rw [if_neg (by rw [ag];simp)]
    refine ih (j+1) (listed.setIfInBounds j true) _ w A M (a.put o.dst undef) (by omega) (by omega) (by simp [hsz]) (fun i g1 g2=>(hlist' i).2 (by
     by_cases Y:i=j
     . exact .inl Y
     . exact .inr (h1 i g1 (by omega)))) (fun i g1 g2=>(W i).2 (by rw [h2 i (by omega) g2];simp;omega)) (fun i g1 g2=>h3 i g1 (D i g2).2) hcl' hfuel' hr
     ⟨hd.base,hd.outer,?_,fun t q ae=>?_,hd.heap,by rw [xg6];exact hd.defers,hd.ev,ah _ (by simp only [xjg]) fun t ht=>xkT ht⟩
    . simp only [xjg];cases aa:o.dst with
      | none=>exact hd.size
      | some d=>simp [Act.put,hd.size]
    . simp only [xjg] at q;by_cases V:o.dst=some t
      . have e1:(a.put o.dst undef).tmps.getD t undef=undef:=by
         have:t<a.tmps.size:=by rw [hd.size];exact q
         simp [Act.put,V,this]
        rw [e1];simp only [V,xkS q];exact Rel.tuple #[] [] rfl (by simp)
      . have e1:(a.put o.dst undef).tmps.getD t undef=a.tmps.getD t undef:=by
         cases aa:o.dst with
         | none=>rfl
         | some d =>
          have hne:d≠t:=fun e=>V (by rw [aa,e])
          simp [Act.put,Array.getElem?_setIfInBounds_ne hne]
        rw [e1];simp only [xkT V];refine hd.tmps t q fun i hi he=>?_
        rcases (hlist' i).1 (ae i hi he) with rfl|h
        . omega
        . exact h
end
end Go.Sim
namespace Go.Sim
open Go.RowKit
section
variable {P : Program} {Inv : IV} {w0 w : World} {A0 : Cx} {A : Nat -> Prop} {M : Id -> Option MB} {ops : Array Oper}
structure DInv (ops:Array Oper) (m:Nat) (st:Nat->St) (w0:World) (A0:Cx) (listed:Array Bool) (w:World) (A:Nat->Prop) (M:Id->Option MB) (a:Act):Prop where
 base:Below w0.heap.size w0 w
 outer:∀ b,b<w0.heap.size->(A b↔A0.av b)
 size:a.tmps.size=(st m).tmps.length
 tmps:∀ t,t<(st m).tmps.length->(∀ i,i<m->xIF ops i=some t->listed.getD i false=true)->Rel w A M (a.tmps.getD t undef) ((st m).tmps.getD t .top)
 heap:HR w A M w0.heap.size (st m).heap
 ev:Ev A0 w A M
 ids:∀ id mm,M id=some mm->id.base<(st 0).heap.length\/∃ i,i<m/\listed.getD i false=true/\id.base=(st i).heap.length/\(st i).heap.length<(st (i+1)).heap.length
 defers:DefOk w0 A0 w a.defers
def xzB (bp:InvOk Inv) (hI:Inv w0) {Q:Exit->Act->World->Prop} {wf:Bool} {m:Nat} (a2:regOk wf ops m=true) (b9:m<=ops.size) {s s1 s2:St} {a:Act}
  (hF:Path (OpF P Inv) ops (ops.toList.take m) s s1) (hT:TPath P Inv ops m m (ops.toList.drop m) s1 s2) (b5:∀ i o,i<m->ops[i]?=some o->xIz wf ops m i=true->xIj ops s1.tmps o=some true->ptrOk s1.eval o.op=true) (hs:SR w0 A0 w A M s a) (hQ:∀ a' w',SOk w0 A0 s2 a' w'->Q .normal a' w'):wpAny P .any ops Q ops.size (Array.replicate ops.size false) a { w with drawn:=w.drawn+1 }:=by
 obtain ⟨st,ad,al,bg⟩:=xwL hF;have b8:(ops.toList.take m).length=m:=by simp;omega
 rw [b8] at al;have hstep':∀ j o,j<m->ops[j]?=some o->(xIj ops (st j).tmps o=some true/\OpF P Inv (st j) o (st (j+1)))\/(xIj ops (st j).tmps o=some false/\st (j+1)=⟨putT (st j).tmps o.dst (.tuple []),(st j).heap⟩):=by
  intro j o hj ho;refine bg j o ?_;rw [List.getElem?_take,if_pos hj];simpa using ho
 have bw:∀ j,j<m->∃ o,ops[j]?=some o:=fun j hj=>⟨ops[j],by simp [show j<ops.size by omega]⟩
 have bi:∀ j,j<m->HSub (st j).heap (st (j+1)).heap:=by
  intro j hj;obtain ⟨o,ho⟩:=bw j hj;rcases hstep' j o hj ho with ⟨_,h⟩|⟨_,h⟩
  . exact h.sub
  . rw [h];exact HSub.refl _
 have a9:∀ k j,j+k<=m->HSub (st j).heap (st (j+k)).heap:=by
  intro k;induction k with
  | zero=>intro j _;exact HSub.refl _
  | succ k ih=>intro j hj;exact (ih j (by omega)).trans (bi (j+k) (by omega))
 have aw:∀ j,j<=m->HSub (st j).heap (st m).heap:=fun j hj=>by have:=a9 (m - j) j (by omega);rwa [show j+(m - j)=m by omega] at this
 have hlen_of:∀ h H:List Box,HSub h H->h.length<=H.length:=by
  intro h H hs;rcases zK H.length h.length with ab|cf
  . obtain ⟨f,hf,_⟩:=hs H.length h[H.length] (by simp [ab])
    simp at hf
  . exact cf
 have ax:∀ i j,i<=j->j<=m->(st i).heap.length<=(st j).heap.length:=fun i j an hj=>by
  have:=a9 (j - i) i (by omega)
  rw [show i+(j - i)=j by omega] at this
  exact hlen_of _ _ this
 have a6:∀ j,j<m->∃ o x,ops[j]?=some o/\(st (j+1)).tmps=putT (st j).tmps o.dst x:=by
  intro j hj;obtain ⟨o,ho⟩:=bw j hj;rcases hstep' j o hj ho with ⟨_,h⟩|⟨_,h⟩
  . rcases h with ⟨x,nb,_,h⟩|⟨c,g,args,ag,r,_,_,_,_,h⟩|⟨c,g,args,ag,v,k,bx,_,_,_,_,_,_,h⟩
    . exact ⟨o,x,ho,by rw [h]⟩
    . exact ⟨o,r,ho,by rw [h]⟩
    . exact ⟨o,_,ho,by rw [h]⟩
  . exact ⟨o,_,ho,by rw [h]⟩
 have bj:∀ k j,j+k<=m->(st (j+k)).tmps.length=(st j).tmps.length:=by
  intro k;induction k with
  | zero=>intro j _;rfl
  | succ k ih =>
   intro j hj;obtain ⟨o,x,_,h⟩:=a6 (j+k) (by omega)
   rw [<-Nat.add_assoc,h,xjg,ih j (by omega)]
 have q:∀ j,j<=m->(st m).tmps.length=(st j).tmps.length:=fun j hj=>by have:=bj (m - j) j (by omega);rwa [show j+(m - j)=m by omega] at this
 have bf:∀ k j t,j+k<=m->(∀ i,j<=i->i<j+k->xIF ops i≠some t)->(st (j+k)).tmps.getD t .top=(st j).tmps.getD t .top:=by
  intro k;induction k with
  | zero=>intro j t _ _;rfl
  | succ k ih =>
   intro j t hj am;obtain ⟨o,x,ho,h⟩:=a6 (j+k) (by omega)
   have hne:o.dst≠some t:=by
    have:=am (j+k) (by omega) (by omega)
    simpa [xIF,ho] using this
   rw [<-Nat.add_assoc,h,xkT hne];exact ih j t (by omega) fun i hi V=>am i hi (by omega)
 have J:∀ j t,j<=m->(∀ i,j<=i->i<m->xIF ops i≠some t)->(st m).tmps.getD t .top=(st j).tmps.getD t .top:=fun j t hj am=>by
  have:=bf (m - j) j t (by omega) (fun i hi V=>am i hi (by omega))
  rwa [show j+(m - j)=m by omega] at this
 have bt:(Array.replicate ops.size false).size=ops.size:=by simp
 have a1:∀ i o,i<m->ops[i]?=some o->xIz wf ops m i=true->Lat P ops (st m) o:=by
  intro i o ae ho ay;obtain ⟨o',ao,au,_⟩:=xid ay;rw [ho] at ao;cases ao;obtain ⟨a3,bh,_⟩:=xmN a2 ho;obtain ⟨O,aa⟩:=bh ae;have bd:=xpy (ops:=ops) (s:=st i) (s':=st m) (o:=o) (q i (by omega)) fun t ht=>J i t (by omega) fun i' hi V he=>by
   have:=a3 i' (aa t ht i' V he);omega
  rcases hstep' i o ae ho with ⟨hw,h⟩|⟨hw,h⟩
  . rcases h with ⟨x,nb,hf,h⟩|⟨c,g,args,ag,r,hc,_⟩|⟨c,g,args,ag,v,k,bx,hc,_⟩
    . replace hf:fop P (st i).eval (st i).heap (st i).heap.length o.op=some (x,nb):=by
       rcases hf with hf|hf
       . exact hf
       . exfalso;revert au hf;cases o.op<;>simp [floatOp,fopE]
      have bz:∀ y,y∈o.op.operands.toList->(st m).eval y=(st i).eval y:=xso (ops:=ops) fun t ht=>J i t (by omega) fun i' hi V he=>by
       have:=a3 i' (aa t ht i' V he);omega
      have ch:ptrOk (st i).eval o.op=true:=by
       have:=b5 i o ae ho ay (by rw [<-al];exact bd.trans hw)
       rw [<-al] at this;rwa [xwM bz] at this
      refine .inl ⟨bd.trans hw,x,(xqa au ch bz hf).2,fun d hd ab=>?_⟩
      . rw [J (i+1) d (by omega) (fun i' hi V he=>by have:=O d hd i' V he;omega),h,hd]
        exact xkS (by rw [<-q i (by omega)];exact ab)
    . rw [hc] at au;simp [floatOp] at au
    . rw [hc] at au;simp [floatOp] at au
  . refine .inr ⟨bd.trans hw,fun d hd ab=>?_⟩
    rw [J (i+1) d (by omega) (fun i' hi V he=>by have:=O d hd i' V he;omega),h,hd]
    exact xkS (by rw [<-q i (by omega)];exact ab)
 have bc:∀ (fuel:Nat) (listed:Array Bool) (w:World) (A:Nat->Prop) (M:Id->Option MB) (a:Act),listed.size=ops.size->unl ops.size listed<=fuel->(∀ i,m<=i->i<ops.size->listed.getD i false=false) ->
   (∀ j o,ops[j]?=some o->listed.getD j false=true->∀ e,e∈edges o->listed.getD e false=true)->DInv ops m st w0 A0 listed w A M a->wpAny P .any ops Q fuel listed a w:=by
  intro fuel;have go:∀ (fuel:Nat) (listed:Array Bool) (w:World) (A:Nat->Prop) (M:Id->Option MB) (a:Act),listed.size=ops.size->unl ops.size listed<=fuel->(∀ i,m<=i->i<ops.size->listed.getD i false=false) ->
    (∀ j o,ops[j]?=some o->listed.getD j false=true->∀ e,e∈edges o->listed.getD e false=true)->DInv ops m st w0 A0 listed w A M a->(∀ i,i<m->(listed.getD i false || xIz wf ops m i)=true)->wpAny P .any ops Q fuel listed a w:=by
   intro fuel listed w A M a hsz hf W ak hd Z;have ay:∀ i,i<m->listed.getD i false=false->xIz wf ops m i=true:=fun i hi hl=>by have:=Z i hi;rw [hl] at this;simpa using this
   refine xzL bp hI a2 hQ fuel m listed s1 w A M a (zd _) b9 hsz (fun i h1 h2=>by omega) W ay ak hf hT ?_
   rw [<-al];exact ⟨hd.base,hd.outer,hd.size,hd.tmps,hd.heap,hd.defers,hd.ev,fun i o g1 g2 g3=>a1 i o g1 g2 (ay i g1 g3)⟩
  induction fuel with
  | zero =>
   intro listed w A M a hsz hf W ak hd;refine go 0 listed w A M a hsz hf W ak hd fun i hi=>?_
   cases hl:listed.getD i false with
   | true=>rfl
   | false =>
    have:0<unl ops.size listed:=List.countP_pos_iff.2 ⟨i,List.mem_range.2 (by omega),by simp only [hl];rfl⟩
    omega
  | succ fuel ih =>
   intro listed w A M a hsz hf W ak hd;rcases xm0 (n:=m) (p:=fun i=>listed.getD i false || xIz wf ops m i) 0 (zR _) (fun i hi=>by omega) with Z|⟨jf,ca,a4,_⟩
   . exact go (fuel+1) listed w A M a hsz hf W ak hd Z
   simp only [Bool.or_eq_false_iff] at a4;rcases xm0 (n:=m) (p:=fun i=>listed.getD i false) 0 (zR _) (fun i hi=>by omega) with Z|⟨j0,cm,cb,bq⟩
   . have:=Z jf ca;rw [a4.1] at this;simp at this
   have ba:=xrm a2 hsz (show j0<ops.size by omega) cb bq
   refine ⟨fun h=>by rw [h] at ba;simp at ba,fun j hj=>?_⟩
   obtain ⟨hu,o,ho,Z⟩:=mem_ready.1 hj;have cg:j<ops.size:=by
    rcases zK j ops.size with h'|h'
    . exact h'
    . rw [Array.getElem?_eq_none h'] at ho;simp at ho
   have bl:j<listed.size:=by omega
   have b1:listed.getD j false=false:=by simpa [bl] using hu
   obtain ⟨a3,bh,b3⟩:=xmN a2 ho;have aj:∀ i,i∈edges o->listed.getD i false=true:=by
    intro i hi;obtain ⟨e,he,ce⟩:=zL.1 hi;obtain ⟨b4,ci⟩:=List.mem_filter.1 he;have:=Z e (Array.mem_toList_iff.1 b4) ci;rwa [ce] at this
   have be:j<m:=by
    rcases zK j m with h'|h'
    . exact h'
    . rcases b3 h' jf (by omega) with h|⟨_,h⟩
      . have:listed.getD jf false=true:=xyw (L:=fun i=>listed.getD i false=true) ak j o ho aj jf h
        rw [a4.1] at this;simp at this
      . rw [a4.2] at h;simp at h
   obtain ⟨O,aa⟩:=bh be;have ah:∀ t,t∈o.looksAt ops->t<(st m).tmps.length->Rel w A M (a.tmps.getD t undef) ((st j).tmps.getD t .top):=by
    intro t ht Y;have h1:=hd.tmps t Y fun i hi he=>aj i (aa t ht i hi he)
    rwa [J j t (by omega) (fun i hi V he=>by have:=a3 i (aa t ht i V he);omega)] at h1
   have bb:a.tmps.size=(st j).tmps.length:=by rw [hd.size,q j (by omega)]
   have hlist':∀ i,(listed.setIfInBounds j true).getD i false=true↔(i=j\/listed.getD i false=true):=by
    intro i;by_cases an:j=i
    . subst an;simp [bl]
    . have:¬ i=j:=fun e=>an e.symm
      simp [Array.getElem?_setIfInBounds_ne an,this]
   have hfuel':unl ops.size (listed.setIfInBounds j true)<=fuel:=by
    have:=xyP hsz cg b1;omega
   have hcl':∀ j' o',ops[j']?=some o'->(listed.setIfInBounds j true).getD j' false=true->∀ e,e∈edges o'->(listed.setIfInBounds j true).getD e false=true:=by
    intro j' o' ao hl e he;rcases (hlist' j').1 hl with rfl|hl
    . rw [ho] at ao;cases ao;exact (hlist' e).2 (.inr (aj e he))
    . exact (hlist' e).2 (.inr (ak j' o' ao hl e he))
   have hrest':∀ i,m<=i->i<ops.size->(listed.setIfInBounds j true).getD i false=false:=by
    intro i h1 h2;have an:j≠i:=by omega
    have:=W i h1 h2;simpa [Array.getElem?_setIfInBounds_ne an] using this
   have bu:∀ (x:AV) (v:Value) (w':World) (A':Nat->Prop) (M':Id->Option MB),(st (j+1)).tmps=putT (st j).tmps o.dst x->Rel w' A' M' v x->(∀ t,t<(st m).tmps.length->(∀ i,i<m->xIF ops i=some t->listed.getD i false=true)->Rel w' A' M' (a.tmps.getD t undef) ((st m).tmps.getD t .top)) ->
     ∀ t,t<(st m).tmps.length->(∀ i,i<m->xIF ops i=some t->(listed.setIfInBounds j true).getD i false=true)->Rel w' A' M' ((a.put o.dst v).tmps.getD t undef) ((st m).tmps.getD t .top):=by
    intro x v w' A' M' hx hv b0 t Y hw;by_cases a0:o.dst=some t
    . have e1:(a.put o.dst v).tmps.getD t undef=v:=by
       have:t<a.tmps.size:=by rw [hd.size];exact Y
       simp [Act.put,a0,this]
      have e2:(st m).tmps.getD t .top=x:=by
       rw [J (j+1) t (by omega) (fun i hi V he=>by have:=O t a0 i V he;omega),hx,a0]
       exact xkS (by rw [<-q j (by omega)];exact Y)
      rw [e1,e2];exact hv
    . have e1:(a.put o.dst v).tmps.getD t undef=a.tmps.getD t undef:=by
       cases ai:o.dst with
       | none=>rfl
       | some d =>
        have hne:d≠t:=fun e=>a0 (by rw [ai,e])
        simp [Act.put,Array.getElem?_setIfInBounds_ne hne]
      rw [e1];refine b0 t Y fun i hi he=>?_
      rcases (hlist' i).1 (hw i hi he) with rfl|h
      . exact absurd (by simpa [xIF,ho] using he) a0
      . exact h
   unfold wpOp;simp only [ho];rcases hstep' j o be ho with ⟨hw,h⟩|⟨hw,h⟩
   . have bk:=xfd (w:=w) (A:=A) (M:=M) bb (fun jg bo d hg ai ab=>ah d (xlI hg ai) (by rw [q j (by omega)];exact ab)) hw
     rw [if_pos bk];left;obtain ⟨x,hx,ck⟩:=xrV (w:=w) (A:=A) (M:=M) (B:=w0.heap.size) (a:=a) (K:=wpAny P .any ops Q fuel (listed.setIfInBounds j true)) (Q:=Q) h (aw (j+1) (by omega)) hd.heap hd.base.size (bp.below _ _ hI hd.base)
      (fun y hy=>by
       cases y with
       | tmp t =>
        by_cases Y:t<(st m).tmps.length
        . exact ah t (xmc hy) Y
        . have:(st j).eval (.tmp t)=.top:=by
           simp only [St.eval,z7];rw [zA (by rw [<-q j (by omega)];exact Nat.le_of_not_lt Y)];rfl
          rw [this];exact .top _
       | const v=>exact xcZ w A M v
       | global g=>exact .gptr g
       | func f=>exact .func f #[] [] rfl (by simp) (fun _=>rfl))
      (fun cc=>by
       have a8:∀ x:Id,x.base=(st j).heap.length->M x=none:=fun x hx=>by
        cases bv:M x with
        | none=>rfl
        | some mm =>
         exfalso;rcases hd.ids _ mm bv with h1|⟨i,ae,aq,he,hg⟩
         . have:=ax 0 j (zR _) (by omega);omega
         . rcases Nat.lt_trichotomy i j with ab|cd|cn
           . have:=ax (i+1) j (by omega) (by omega);omega
           . subst cd;rw [b1] at aq;simp at aq
           . have:=ax (j+1) i (by omega) (by omega);omega
       exact ⟨a8 (.b _) rfl,fun i' j'=>a8 (.r _ i' j') rfl⟩)
     refine ck fun v w' A' M' ac a7 hA hM ht b2 hr=>ih (listed.setIfInBounds j true) w' A' M' (a.put o.dst v) (by simp [hsz]) hfuel' hrest' hcl' ?_
     refine ⟨hd.base.trans (ac.mono hd.base.size),fun b hb=>(hA b (Nat.lt_of_lt_of_le hb hd.base.size)).trans (hd.outer b hb),?_,?_,b2,hd.ev.step ⟨ac.size,fun b hb _=>ac.block b hb,fun b hb h=>(hA b hb).1 h,fun b hb h _=>(hA b hb).2 h,a7,ht⟩,fun id mm ap=>?_,by rw [xg6];exact hd.defers.same fun D hD=>ac.block D (xjZ hD)⟩
     . cases ai:o.dst with
       | none=>exact hd.size
       | some d=>simp [Act.put,hd.size]
     . exact bu x v w' A' M' hx hr fun t Y b6=>(hd.tmps t Y b6).mono (fun b hb _=>ac.block b hb) ac.size (fun b hb cj=>(hA b hb).1 cj) a7
     . rcases hM id mm ap with ⟨m0,b7⟩|⟨he,hg⟩
       . rcases hd.ids id m0 b7 with h1|⟨i,ae,aq,he,hg⟩
         . exact .inl h1
         . exact .inr ⟨i,ae,(hlist' i).2 (.inr aq),he,hg⟩
       . exact .inr ⟨j,be,(hlist' j).2 (.inl rfl),by rw [he];rfl,hg⟩
   . have bk:=xfd (w:=w) (A:=A) (M:=M) bb (fun jg bo d hg ai ab=>ah d (xlI hg ai) (by rw [q j (by omega)];exact ab)) hw
     rw [if_neg (by rw [bk];simp)]
     refine ih (listed.setIfInBounds j true) w A M (a.put o.dst undef) (by simp [hsz]) hfuel' hrest' hcl' ?_
     refine ⟨hd.base,hd.outer,?_,?_,hd.heap,hd.ev,fun id mm ap=>?_,by rw [xg6];exact hd.defers⟩
     . cases ai:o.dst with
       | none=>exact hd.size
       | some d=>simp [Act.put,hd.size]
     . exact bu (.tuple []) undef w A M (by rw [h]) (.tuple #[] [] rfl (by simp)) hd.tmps
     . rcases hd.ids id mm ap with h1|⟨i,ae,aq,he,hg⟩
       . exact .inl h1
       . exact .inr ⟨i,ae,(hlist' i).2 (.inr aq),he,hg⟩
 obtain ⟨A1,a5,cl⟩:=hs.refreeze (by rw [<-ad];exact aw 0 (zR _):HSub s.heap (st m).heap)
 have az:∀ i,(Array.replicate ops.size false).getD i false=false:=by
  intro i;by_cases hi:i<ops.size<;>simp [hi]
 have bn:unl ops.size (Array.replicate ops.size false)<=ops.size:=by
  have:=List.countP_le_length (l:=List.range ops.size) (p:=fun i=>!(Array.replicate ops.size false).getD i false)
  simpa [unl] using this
 refine bc ops.size (Array.replicate ops.size false) _ A1 M a bt bn (fun i _ _=>az i) (fun j o _ hl=>by rw [az j] at hl;simp at hl) ?_
 have af:Below w.heap.size w { w with drawn:=w.drawn+1 }:=⟨rfl,rfl,rfl,zd _,fun _ _=>rfl⟩
 refine ⟨hs.base.trans ⟨rfl,rfl,rfl,zd _,fun _ _=>rfl⟩,a5.outer,by rw [q 0 (zR _),ad];exact hs.size,fun t Y hw=>?_,a5.heap.grow af,a5.ev.step ⟨zd _,fun _ _ _=>rfl,fun _ _ h=>h,fun _ _ h _=>h,MExt.refl M,.of_new af fun _ _ h=>.inl h⟩,fun id mm ap=>?_,hs.defers⟩
 . have am:∀ i,i<m->xIF ops i≠some t:=fun i hi he=>by have:=hw i hi he;rw [az i] at this;simp at this
   rw [J 0 t (zR _) (fun i _ hi=>am i hi),ad]
   rw [q 0 (zR _),ad] at Y;exact (a5.tmps t Y).grow af
 . left;rw [ad];rcases zK id.base s.heap.length with h'|h'
   . exact h'
   . rw [hs.heap.none_of_base h'] at ap;simp at ap
def xwN (D:P.follows .mixedOrders=true) (q:InvOk Inv) (hI:Inv w0) {Q:Exit->Act->World->Prop} {wf:Bool} {id m:Nat} (O:noDefer ops=true) (V:regOk wf ops m=true) (J:m<=ops.size) {s s1 s2:St} {a:Act}
  (hF:Path (OpF P Inv) ops (ops.toList.take m) s s1) (hT:TPath P Inv ops m m (ops.toList.drop m) s1 s2) (W:∀ i o,i<m->ops[i]?=some o->xIz wf ops m i=true->xIj ops s1.tmps o=some true->ptrOk s1.eval o.op=true) (hs:SR w0 A0 w A M s a) (hQ:∀ a' w',SOk w0 A0 s2 a' w'->Q .normal a' w') (ro:Option Nat):(Code.region id ops true).wpIn (wideR ro) 0 P Q a w :=
 wpIn_region_any D (xps ro 0 (xcQ O) _ _ _ _ (xzB (Q:=onlyN Q) q hI V J hF hT W hs hQ))
end
end Go.Sim
namespace Go.Sim
open Go.RowKit
def refsOf:AV->List Nat
 | .agg cs=>refsL cs
 | .func _ cs=>refsL cs
 | .tuple cs=>refsL cs
 | .own id _ _ _=>[id.base]
 | .osl id _ _ _=>[id.base]
 | _=>[]
where refsL:List AV->List Nat
 | []=>[]
 | x::xs=>refsOf x++refsL xs
def gather (H:List Box):Nat->List Nat->List Nat->List Nat
 | 0,_,acc=>acc
 | _,[],acc=>acc
 | n+1,id::todo,acc=>match xIt acc id with
  | some _=>gather H n todo acc
  | none=>match H[id]? with
   | some bx=>match bx.pm with
    | true=>gather H n todo (acc++[id])
    | false=>gather H n (todo++refsOf.refsL bx.xs) (acc++[id])
   | none=>gather H n todo acc
def normF (pin:Nat) (ids:List Nat) (H:List Box) (id ver:Nat):Option (Nat×Nat):=match xIt ids id with
 | none=>none
 | some j=>match Nat.blt j pin with
  | true=>some (j,ver)
  | false=>match H[id]? with
   | none=>none
   | some bx=>match Nat.beq bx.ver ver with
    | true=>some (j,0)
    | false=>none
def normH (pin:Nat) (f:Nat->Nat->Option (Nat×Nat)) (H:List Box):Nat->List Nat->Option (List Box)
 | _,[]=>some []
 | j,id::ids=>match H[id]? with
  | some bx=>match xIJ f bx with
   | true=>match normH pin f H (j+1) ids with
    | some bs=>some (xIB f (match Nat.blt j pin with|true=>bx.ver|false=>0) bx::bs)
    | none=>none
   | false=>none
  | none=>none
def pinsOk:Nat->Nat->List Nat->Bool
 | 0,_,_=>true
 | _+1,_,[]=>false
 | n+1,j,id::ids=>Nat.beq id j&&pinsOk n (j+1) ids
def xrk:∀ {n j:Nat} {ids:List Nat},pinsOk n j ids=true->∀ k,k<n->ids[k]?=some (j+k)
 | 0,_,_,_,k,hk=>by omega
 | n+1,j,[],h,_,_=>by simp [pinsOk] at h
 | n+1,j,id::ids,h,k,hk=>by
  simp only [pinsOk,zg] at h;cases k with
  | zero=>simpa using zh h.1
  | succ k =>
   have:=xrk h.2 k (by omega)
   rw [y6,this];congr 1;omega
def xsF {pin:Nat} {f:Nat->Nat->Option (Nat×Nat)} {H:List Box}:∀ {ids:List Nat} {j0:Nat} {H':List Box},normH pin f H j0 ids=some H'->H'.length=ids.length/\∀ (j id:Nat),ids[j]?=some id->∃ bx:Box,H[id]?=some bx/\H'[j]?=some (xIB f (match Nat.blt (j0+j) pin with|true=>bx.ver|false=>0) bx)/\xIJ f bx=true
 | [],j0,H',h=>by simp only [normH,z6] at h;subst h;simp
 | a::ids,j0,H',h=>by
  unfold normH at h;split at h
  case h_2=>simp at h
  rename_i bx hb;split at h
  case h_2=>simp at h
  rename_i D;split at h
  case h_2=>simp at h
  rename_i bs q;cases h;obtain ⟨h1,h2⟩:=xsF q;refine ⟨by simp [h1],fun j id hj=>?_⟩
  cases j with
  | zero =>
   simp only [zZ,z6] at hj;subst hj;exact ⟨bx,hb,rfl,D⟩
  | succ j =>
   obtain ⟨bx',e1,e2,e3⟩:=h2 j id (by simpa using hj)
   exact ⟨bx',e1,by rw [show j0+(j+1)=j0+1+j by omega];simpa using e2,e3⟩
def ageOf (pin j:Nat) (m:MB):MB:=match Nat.blt j pin with
 | true=>m
 | false=>{ m with ver:=0 }
def agI (pin:Nat) (x:Id) (m:MB):MB:=match x with
 | .b j=>ageOf pin j m
 | .r _ _ _=>m
def xuf {pin:Nat} {ids:List Nat} {H:List Box} {id ver k v:Nat} (h:normF pin ids H id ver=some (k,v)):xIt ids id=some k:=by grind [normF]
def HR.norm {w:World} {A:Nat->Prop} {M:Id->Option MB} {B:Nat} {H H':List Box} (hR:HR w A M B H) {pin:Nat} {ids:List Nat} (af:nodupB ids=true) (ac:pinsOk pin 0 ids=true) (hH:normH pin (normF pin ids H) H 0 ids=some H') :
  ∃ M',HR w A M' B H'/\RenTo (normF pin ids H) M M'/\(∀ id m,id.base<pin->M id=some m->M' id=some m)/\∀ k m',M' k=some m'->∃ id m,M id=some m/\m'.b=m.b/\m'.cap=m.cap:=by
 obtain ⟨hl,ah⟩:=xsF hH;let M':Id->Option MB:=fun x=>(ids[x.base]?).bind fun n=>(M (x.re n)).map (agI pin x)
 have O:∀ (x:Id) m',M' x=some m'->∃ n m,ids[x.base]?=some n/\M (x.re n)=some m/\m'=agI pin x m:=fun x m' h=>by
  simp only [M'] at h;cases hj:ids[x.base]? with
  | none=>rw [hj] at h;simp at h
  | some id =>
   rw [hj] at h;simp only [Option.bind_some,Option.map_eq_some_iff] at h;obtain ⟨m,h1,h2⟩:=h;exact ⟨id,m,rfl,h1,h2.symm⟩
 have D:∀ (x:Id) n m,ids[x.base]?=some n->M (x.re n)=some m->M' x=some (agI pin x m):=fun x n m hj hm=>by simp [M',hj,hm]
 have J:∀ (x:Id) m,(agI pin x m).b=m.b/\(agI pin x m).sz=m.sz/\(agI pin x m).cap=m.cap/\(agI pin x m).ty=m.ty:=fun x m=>by
  cases x with
  | b j=>unfold agI ageOf;simp only;split<;>exact ⟨rfl,rfl,rfl,rfl⟩
  | r f i j=>exact ⟨rfl,rfl,rfl,rfl⟩
 have V:RenTo (normF pin ids H) M M':=fun id ver k v m hf hm hv=>by
  cases id with
  | r g i' j' =>
   simp only [renI] at hf;split at hf
   case h_2=>simp at hf
   rename_i j u hj;simp only [z6,zb] at hf;obtain ⟨rfl,rfl⟩:=hf;exact ⟨m,D (.r j i' j') g m (xf3 (xuf hj)) hm,hv,rfl,rfl,rfl,rfl,fun e=>e⟩
  | b id =>
   simp only [renI] at hf;split at hf
   case h_2=>simp at hf
   rename_i j u q;simp only [z6,zb] at hf;obtain ⟨rfl,rfl⟩:=hf;have Z:=xf3 (xuf q);unfold normF at q;split at q
   . simp at q
   rename_i j' aj;split at q
   . rename_i hb;simp only [z6,zb] at q;obtain ⟨rfl,rfl⟩:=q;have:agI pin (.b j') m=m:=by simp [agI,ageOf,hb]
     exact ⟨m,by rw [D (.b j') id m Z hm,this],hv,rfl,rfl,rfl,rfl,fun e=>e⟩
   . rename_i hb;split at q
     . simp at q
     rename_i bx ag;split at q
     case h_2=>simp at q
     rename_i Y;simp only [z6,zb] at q;obtain ⟨rfl,rfl⟩:=q;obtain ⟨bx',g1,g2⟩:=hR.box (.b id) m hm;rw [xbG,ag] at g1;cases g1;obtain ⟨a1,a2,a3,a4⟩:=J (.b j') m;exact ⟨_,D (.b j') id m Z hm,zR _,a1,a2,a3,a4,fun _=>by rw [<-zh Y,g2.ver]⟩
 refine ⟨M',⟨fun x m' W=>?_,fun x x' m1 m2 h1 h2 c1 c2 he=>?_,hR.lt⟩,V,fun id m ad hm=>?_,fun k m' W=>?_⟩
 . obtain ⟨n,m,hj,hm,rfl⟩:=O x m' W;obtain ⟨bx,g1,g2,g3⟩:=ah x.base n hj;obtain ⟨bx',g4,g5⟩:=hR.box (x.re n) m hm;obtain ⟨a1,a2,a3,a4⟩:=J x m;cases x with
   | b j =>
    have g4':H[n]?=some bx':=g4;rw [g1] at g4';cases g4';refine ⟨_,g2,g5.ren g3 V (fun i' j' m0 h0=>D (.r j i' j') n m0 hj h0) a1 ?_ a2 a3 a4⟩
    simp only [Id.base];rw [zI];unfold agI ageOf;simp only;split
    . exact g5.ver.symm
    . rfl
   | r k i' j' =>
    have hp:=xoa g4;have g6:getB H' (.r k i' j')=some bx':=xoZ (f:=normF pin ids H) g4 fun ai aa=>by
     rw [g1] at aa;cases aa;exact ⟨_,g2⟩
    have g7:=g5.ren (f:=normF pin ids H) (M':=M') (id':=.r k i' j') (m':=m) (ver:=m.ver) (xoj hp) V (fun i1 j1 m0 h0=>D (.r k i1 j1) n m0 hj h0) rfl rfl rfl rfl rfl
    rw [<-g5.ver,xqw hp] at g7;exact ⟨bx',g6,g7⟩
 . obtain ⟨n1,ae,e1,e2,rfl⟩:=O x m1 h1;obtain ⟨n2,ab,e3,e4,rfl⟩:=O x' m2 h2;obtain ⟨a1,_,a3,_⟩:=J x ae;obtain ⟨b1,_,b3,_⟩:=J x' ab;rw [a3] at c1;rw [b3] at c2;have:=hR.inj _ _ ae ab e2 e4 c1 c2 (by rw [<-a1,<-b1,he])
   obtain ⟨rfl,hx⟩:=Id.re_inj this;have p1:=xgY af e1;have p2:=xgY af e3;rw [p1] at p2;exact hx (by simpa using p2)
 . have:=xrk ac id.base ad;rw [zI] at this;rw [D id id.base m this (by rw [Id.re_self];exact hm)]
   have hb:Nat.blt id.base pin=true:=Nat.ble_eq_true_of_le ad;cases id with
   | b n=>simp only [Id.base] at hb;simp [agI,ageOf,hb]
   | r f i j=>rfl
 . obtain ⟨n,m,hj,hm,rfl⟩:=O k m' W;obtain ⟨a1,_,a3,_⟩:=J k m;exact ⟨_,m,hm,a1,a3⟩
def Ev.norm {C:Cx} {w:World} {A:Nat->Prop} {M M':Id->Option MB} (h:Ev C w A M) {pin:Nat} (hp:C.pin<=pin) (h1:∀ id m,id.base<pin->M id=some m->M' id=some m) (h2:∀ k m',M' k=some m'->∃ id m,M id=some m/\m'.b=m.b/\m'.cap=m.cap):Ev C w A M':=by
 refine ⟨h.size,h.keep,h.less,h.more,fun id m D hm=>?_,fun id m' q h0=>?_⟩
 . obtain ⟨m',g1,g2⟩:=h.ids id m D hm;exact ⟨m',h1 id m' (by omega) g1,g2⟩
 . obtain ⟨i,m,g1,g2,g3⟩:=h2 id m' q;rw [g3] at h0;rw [g2];exact h.src i m g1 h0
def mkTs (n:Nat):List (Nat×AV)->List AV
 | []=>List.replicate n .top
 | (t,v)::l=>(mkTs n l).set t v
def liveOf (live:List Nat) (ts:List AV):List AV:=live.map fun t=>ts.getD t .top
def xhv (n:Nat):∀ l:List (Nat×AV),(mkTs n l).length=n
 | []=>by simp [mkTs]
 | (t,v)::l=>by simp [mkTs,xhv n l]
def xql (n:Nat) (ts:List AV) (hn:ts.length=n) (t:Nat):∀ live:List Nat,(mkTs n (live.zip (liveOf live ts))).getD t .top=ts.getD t .top\/(mkTs n (live.zip (liveOf live ts))).getD t .top=.top
 | []=>by
  right;simp only [List.zip_nil_left,mkTs,z7,List.getElem?_replicate];split<;>rfl
 | a::live=>by
  simp only [liveOf,zW,List.zip_cons_cons,mkTs];have ih:=xql n ts hn t live;simp only [liveOf] at ih;by_cases ha:a=t
  . subst ha;by_cases q:a<n
    . left;exact xcc (by rw [xhv];exact q)
    . right;exact xqK (by rw [y8,xhv];omega)
  . rw [xcd ha];exact ih
def shrH (sz id len:Nat) (H:List Box):List Box:=match sz with
 | 0=>match H[id]? with
  | some bx=>match isC bx.ty with
   | false=>H.set id ⟨bx.ver,bx.sz,bx.ty,bx.xs.take len,bx.frz,bx.pm⟩
   | true=>H
  | none=>H
 | _+1=>H
def nilsAt:List AV->Option Nat
 | []=>none
 | c::cs=>match c with
  | .nils=>some 0
  | _=>match nilsAt cs with
   | some j=>some (j+1)
   | none=>none
def xri:∀ {cs:List AV} {j:Nat},nilsAt cs=some j->cs.getD j .top=.nils
 | [],j,h=>by simp [nilsAt] at h
 | c::cs,j,h=>by
  unfold nilsAt at h;split at h
  . cases h;rfl
  . split at h
    . rename_i k hk;cases h;have:=xri hk;simpa using this
    . simp at h
def convH (sz:Nat) (ty:TypeId) (id:Nat) (H:List Box):List Box:=match H[id]? with
 | some bx=>match isC bx.ty with
  | false=>match bx.xs with
   | [c]=>match c with
    | .nils=>match sz with
     | 0=>H
     | n+1=>match Nat.beq bx.sz 1 with
      | true=>H.set id ⟨bx.ver,1,bx.ty,[.osl (.b H.length) 0 0 0],bx.frz,false⟩++[⟨0,n+1,ty,[],false,true⟩]
      | false=>H
    | .osl (.b id2) _ _ len=>shrH sz id2 len H
    | .agg cs=>match sz with
     | 0=>H
     | n+1=>match nilsAt cs with
      | some j=>H.set id ⟨bx.ver,bx.sz,bx.ty,[.agg (cs.set j (.osl (.b H.length) 0 0 0))],bx.frz,false⟩++[⟨0,n+1,ty,[],false,true⟩]
      | none=>H
    | _=>H
   | _=>H
  | true=>H
 | none=>H
section
variable {w : World} {A : Nat -> Prop} {M : Id -> Option MB} {B : Nat} {H : List Box}
def Mv.refl:Mv w A M w A M:=⟨zd _,fun _ _ _=>rfl,fun _ _ h=>h,fun _ _ h _=>h,MExt.refl M,⟨fun _ _ _=>rfl,fun id m h h0=>.inl ⟨id,m,h,h0,rfl⟩⟩⟩
def HR.shrH (hR:HR w A M B H) (sz id len:Nat):HR w A M B (Sim.shrH sz id len H):=by
 unfold Sim.shrH;split
 . split
   . rename_i bx hb;split
     . rename_i q;refine hR.rebuild (fun k=>k=id) (fun k hk _=>zY (fun e=>hk e.symm)) (fun _ _=>rfl) (fun _ _ _ _ _=>⟨rfl,fun h=>h⟩) (fun _ _ _=>rfl) (zd _) (fun _ _ h=>h) (MExt.refl M) (fun x m hx hm=>?_) (fun x m1 x' m2 _ h1 h2 c1 c2 he=>hR.inj x x' m1 m2 h1 h2 c1 c2 he) hR.lt
       obtain ⟨bx',k1,k2⟩:=hR.box x m hm;by_cases D:x=.b id
       . subst D;rw [xbG,hb] at k1;cases k1;refine ⟨⟨bx.ver,bx.sz,bx.ty,bx.xs.take len,bx.frz,bx.pm⟩,by rw [xbG];exact zM (xcP hb),k2.ver,k2.sz,k2.ty,k2.capm,?_,fun y hy=>k2.ok y (List.mem_of_mem_take hy),k2.low,k2.lt,fun h0=>?_,k2.guard⟩
         . have:=k2.fits;simp only [zu];omega
         . obtain ⟨c,c1,c2,c3⟩:=k2.cells h0;have J:xIa m.ty=false:=k2.nomap (xaH q);refine ⟨c,.of J (c1.plain J),c2,fun i j hi hj=>?_⟩
           simp only [zu] at hi;have:=c3 i j (by omega) hj
           have e:(bx.xs.take len).getD i .top=bx.xs.getD i .top:=by
            simp [z7,show i<len by omega]
           show Rel w A (MV M _ j) _ (xIw _ i j bx.ty (((bx.xs.take len).getD i .top).cells.getD j .top));rw [e];exact this
       . refine ⟨bx',?_,k2⟩;rw [xc6 (bx:=bx) (bx':=⟨bx.ver,bx.sz,bx.ty,bx.xs.take len,bx.frz,bx.pm⟩) hb q q D];exact k1
     . exact hR
   . exact hR
 . exact hR
def HR.cellnil (hR:HR w A M B H) {id n:Nat} {bx:Box} (ty:TypeId) (hb:H[id]?=some bx) (q:isC bx.ty=false) (hx:bx.xs=[.nils]) (hs:bx.sz=1) :
  ∃ M',HR w A M' B (H.set id ⟨bx.ver,1,bx.ty,[.osl (.b H.length) 0 0 0],bx.frz,false⟩++[⟨0,n+1,ty,[],false,true⟩])/\Mv w A M w A M':=by
 obtain ⟨g1,g2,g3⟩:=hR.virt (n+1) ty true;have J:=xcP hb;have D:(H++[⟨0,n+1,ty,[],false,true⟩])[id]?=some bx:=by rw [zP J];exact hb
 have O:H.set id ⟨bx.ver,1,bx.ty,[.osl (.b H.length) 0 0 0],bx.frz,false⟩++[(⟨0,n+1,ty,[],false,true⟩:Box)]=(H++[(⟨0,n+1,ty,[],false,true⟩:Box)]:List Box).set id (⟨bx.ver,1,bx.ty,[.osl (.b H.length) 0 0 0],bx.frz,false⟩:Box):=by
  rw [List.set_append,if_pos J]
 rw [O];refine ⟨_,g1.rebuild (fun k=>k=id) (fun k hk _=>zY (fun e=>hk e.symm)) (fun _ _=>rfl) (fun _ _ _ _ _=>⟨rfl,fun h=>h⟩) (fun _ _ _=>rfl) (zd _) (fun _ _ h=>h) (MExt.refl _) (fun x m aa hm=>?_) (fun x m1 x' m2 _ h1 h2 c1 c2 he=>g1.inj x x' m1 m2 h1 h2 c1 c2 he) g1.lt,g2⟩
 obtain ⟨bx',k1,k2⟩:=g1.box x m hm;by_cases V:x=.b id
 . subst V;rw [xbG,D] at k1;cases k1;have hsz:m.sz=1:=by rw [<-k2.sz];exact hs
   refine ⟨⟨bx.ver,1,bx.ty,[.osl (.b H.length) 0 0 0],bx.frz,false⟩,by rw [xbG];exact zM (xcP D),k2.ver,hsz.symm,k2.ty,k2.capm,?_,fun y hy=>?_,k2.low,k2.lt,fun h0=>?_,k2.guard⟩
   . have:=k2.fits;rw [hx] at this;exact this
   . simp only [zw] at hy;subst hy;rw [hsz];rfl
   . obtain ⟨c,c1,c2,c3⟩:=k2.cells h0;have W:xIa m.ty=false:=k2.nomap (xaH q);refine ⟨c,.of W (c1.plain W),c2,fun i j hi hj=>?_⟩
     have Z:i=0:=by simpa using hi
     have Y:j=0:=by omega
     subst Z Y;have:=c3 0 0 (by rw [hx];simp) hj
     rw [xar q,xax q,hx] at this;rw [xar q,xax (bx:=⟨bx.ver,1,bx.ty,[.osl (.b H.length) 0 0 0],bx.frz,false⟩) q];have h2:Rel w A (MPut M H.length ⟨0,0,n+1,0,rty ty⟩) (c.getD (0*m.sz+0) undef) .nils:=this.unmp;generalize c.getD (0*m.sz+0) undef=v at h2;cases h2;exact g3 none
 . refine ⟨bx',?_,k2⟩;rw [xc6 (bx:=bx) (bx':=⟨bx.ver,1,bx.ty,[.osl (.b H.length) 0 0 0],bx.frz,false⟩) D q q V];exact k1
def HR.cellnilJ (hR:HR w A M B H) {id n j0:Nat} {bx:Box} {cs:List AV} (ty:TypeId) (hb:H[id]?=some bx) (q:isC bx.ty=false) (hx:bx.xs=[.agg cs]) (O:cs.getD j0 .top=.nils) :
  ∃ M',HR w A M' B (H.set id ⟨bx.ver,bx.sz,bx.ty,[.agg (cs.set j0 (.osl (.b H.length) 0 0 0))],bx.frz,false⟩++[⟨0,n+1,ty,[],false,true⟩])/\Mv w A M w A M':=by
 obtain ⟨g1,g2,g3⟩:=hR.virt (n+1) ty true;have V:=xcP hb;have ab:j0<cs.length:=by
  by_cases h:j0<cs.length
  . exact h
  . rw [xqK (Nat.le_of_not_lt h)] at O;cases O
 have D:(H++[⟨0,n+1,ty,[],false,true⟩])[id]?=some bx:=by rw [zP V];exact hb
 have Y:H.set id ⟨bx.ver,bx.sz,bx.ty,[.agg (cs.set j0 (.osl (.b H.length) 0 0 0))],bx.frz,false⟩++[(⟨0,n+1,ty,[],false,true⟩:Box)]=(H++[(⟨0,n+1,ty,[],false,true⟩:Box)]:List Box).set id (⟨bx.ver,bx.sz,bx.ty,[.agg (cs.set j0 (.osl (.b H.length) 0 0 0))],bx.frz,false⟩:Box):=by
  rw [List.set_append,if_pos V]
 rw [Y];refine ⟨_,g1.rebuild (fun k=>k=id) (fun k hk _=>zY (fun e=>hk e.symm)) (fun _ _=>rfl) (fun _ _ _ _ _=>⟨rfl,fun h=>h⟩) (fun _ _ _=>rfl) (zd _) (fun _ _ h=>h) (MExt.refl _) (fun x m ad hm=>?_) (fun x m1 x' m2 _ h1 h2 c1 c2 he=>g1.inj x x' m1 m2 h1 h2 c1 c2 he) g1.lt,g2⟩
 obtain ⟨bx',k1,k2⟩:=g1.box x m hm;by_cases Z:x=.b id
 . subst Z;rw [xbG,D] at k1;cases k1;have J:(AV.agg cs).okElem m.sz=true:=k2.ok _ (by rw [hx];simp)
   refine ⟨⟨bx.ver,bx.sz,bx.ty,[.agg (cs.set j0 (.osl (.b H.length) 0 0 0))],bx.frz,false⟩,by rw [xbG];exact zM (xcP D),k2.ver,k2.sz,k2.ty,k2.capm,?_,fun y hy=>?_,k2.low,k2.lt,fun h0=>?_,k2.guard⟩
   . have:=k2.fits;rw [hx] at this;exact this
   . simp only [zw] at hy;subst hy;simp only [AV.okElem,AV.cells,zg,beq_iff_eq,zJ,y8] at J |-;refine ⟨J.1,fun z hz=>?_⟩
     rcases List.mem_or_eq_of_mem_set hz with h|h
     . exact J.2 z h
     . subst h;rfl
   . obtain ⟨c,c1,c2,c3⟩:=k2.cells h0;have aa:xIa m.ty=false:=k2.nomap (xaH q);refine ⟨c,.of aa (c1.plain aa),c2,fun i j hi hj=>?_⟩
     have ac:i=0:=by simpa using hi
     subst ac;have:=c3 0 j (by rw [hx];simp) hj
     rw [xar q,xax q,hx] at this;rw [xar q,xax (bx:=⟨bx.ver,bx.sz,bx.ty,[.agg (cs.set j0 (.osl (.b H.length) 0 0 0))],bx.frz,false⟩) q];have h2:Rel w A (MPut M H.length ⟨0,0,n+1,0,rty ty⟩) (c.getD (0*m.sz+j) undef) (cs.getD j .top):=this.unmp;show Rel w A (MPut M H.length ⟨0,0,n+1,0,rty ty⟩) (c.getD (0*m.sz+j) undef) ((cs.set j0 (.osl (.b H.length) 0 0 0)).getD j .top);by_cases W:j0=j
     . subst W;rw [xcc ab];rw [O] at h2;generalize c.getD (0*m.sz+j0) undef=v at h2;cases h2;exact g3 none
     . rw [xcd W];exact h2
 . refine ⟨bx',?_,k2⟩;rw [xc6 (bx:=bx) (bx':=⟨bx.ver,bx.sz,bx.ty,[.agg (cs.set j0 (.osl (.b H.length) 0 0 0))],bx.frz,false⟩) D q q Z];exact k1
def HR.convH (hR:HR w A M B H) (sz:Nat) (ty:TypeId) (id:Nat):∃ M',HR w A M' B (Sim.convH sz ty id H)/\Mv w A M w A M':=by
 unfold Sim.convH;split
 . rename_i bx hb;split
   . rename_i q;split
     . rename_i c hx;split
       . split
         . exact ⟨M,hR,Mv.refl⟩
         . split
           . rename_i hs;exact hR.cellnil ty hb q hx (zh hs)
           . exact ⟨M,hR,Mv.refl⟩
       . exact ⟨M,hR.shrH _ _ _,Mv.refl⟩
       . rename_i cs;split
         . exact ⟨M,hR,Mv.refl⟩
         . split
           . rename_i j hj;exact hR.cellnilJ ty hb q hx (xri hj)
           . exact ⟨M,hR,Mv.refl⟩
       . exact ⟨M,hR,Mv.refl⟩
     . exact ⟨M,hR,Mv.refl⟩
   . exact ⟨M,hR,Mv.refl⟩
 . exact ⟨M,hR,Mv.refl⟩
end
def varOf (H:List Box) (id ver i j:Nat):Option AV:=match H[id]? with
 | some bx=>match isC bx.ty,bx.xs with
  | false,[c]=>match Nat.beq bx.sz 1&&Nat.beq bx.ver ver&&Nat.beq i 0&&Nat.beq j 0 with
   | true=>some (c.cells.getD 0 .top)
   | false=>none
  | _,_=>none
 | none=>none
def mapOf (H:List Box) (id:Nat):Option Nat:=match H[id]? with
 | some bx=>match xIa bx.ty with
  | true=>some id
  | false=>match bx.xs with
   | [.own (.b k) _ _ _]=>match H[k]? with
    | some b2=>match xIa b2.ty with
     | true=>some k
     | false=>none
    | none=>none
   | _=>none
 | none=>none
def convs:List (Nat×Nat×TypeId)->List AV->List Box->List AV×List Box
 | [],ts,H=>(ts,H)
 | (t,sz,ty)::cs,ts,H=>match Nat.beq ty 1073741824 with
  | true=>match ts.getD t .top with
   | .own (.b id) ver i j=>match Nat.beq sz 0 with
    | true=>match varOf H id ver i j with
     | some x=>convs cs (ts.set t (.func vpF [x])) (freeze H [id])
     | none=>convs cs ts H
    | false=>match mapOf H id with
     | some k=>convs cs ts (freeze H [k])
     | none=>convs cs ts H
   | .func _ cp=>match Nat.beq sz 0 with
    | true=>convs cs ts H
    | false=>convs cs ts (freeze H ((refsOf.refsL cp).filterMap (mapOf H)))
   | .nils=>convs cs (ts.set t (.list sz [])) H
   | .osl (.b id) ver off len=>match resolve H xIs (.osl (.b id) ver off len) with
    | some y=>convs cs (ts.set t y) (freeze H (reach H xIs (.osl (.b id) ver off len)))
    | none=>convs cs ts H
   | _=>convs cs ts H
  | false=>match ts.getD t .top with
   | .nils=>convs cs (ts.set t (.osl H.length 0 0 0)) (H++[⟨0,sz,ty,[],false,true⟩])
   | .own (.b id) _ _ _=>convs cs ts (convH sz ty id H)
   | .osl (.b id) _ _ len=>convs cs ts (shrH sz id len H)
   | _=>convs cs ts H
def normS (pin:Nat) (conv:List (Nat×Nat×TypeId)) (live:List Nat) (s:St):Option (List AV×List Box) :=
 let c:=convs conv s.tmps s.heap
 let ids:=gather c.2 1000 (List.range pin++refsOf.refsL (liveOf live c.1)) [];match nodupB ids&&pinsOk pin 0 ids with
 | true=>match normH pin (normF pin ids c.2) c.2 0 ids with
  | some H'=>some (rens (normF pin ids c.2) (liveOf live c.1),H')
  | none=>none
 | false=>none
def xrb (f:Nat->Nat->Option (Nat×Nat)) (ts:List AV):∀ live:List Nat,rens f (liveOf live ts)=liveOf live (rens f ts)
 | []=>rfl
 | t::live=>by
  have:=xrb f ts live;simp only [liveOf] at this;simp only [liveOf,zW,rens,xf6,this]
def SR.conv1 {w0 w:World} {A0:Cx} {A:Nat->Prop} {M:Id->Option MB} {ts:List AV} {H:List Box} {a:Act} (h:SR w0 A0 w A M ⟨ts,H⟩ a) {t sz:Nat} {ty:TypeId} (ht:ts.getD t .top=.nils) :
  ∃ M',SR w0 A0 w A M' ⟨ts.set t (.osl H.length 0 0 0),H++[⟨0,sz,ty,[],false,true⟩]⟩ a:=by
 obtain ⟨g1,g2,g3⟩:=h.heap.virt sz ty true;refine ⟨_,h.base,h.outer,by simp [h.size],fun t' q=>?_,g1,h.defers,h.ev.step g2⟩
 simp only [y8] at q;have h1:=g2.rel (h.tmps t' q);by_cases hd:t=t'
 . subst hd;simp only [xcc q];rw [ht] at h1;generalize a.tmps.getD t undef=v at h1;cases h1;exact g3 none
 . simp only [xcd hd];exact h1
def SR.vptr {w0 w:World} {A0:Cx} {A:Nat->Prop} {M:Id->Option MB} {ts:List AV} {H:List Box} {a:Act} (hs:SR w0 A0 w A M ⟨ts,H⟩ a) {t id ver i j:Nat} {x:AV} (ht:ts.getD t .top=.own (.b id) ver i j) (hv:varOf H id ver i j=some x):∃ A1,SR w0 A0 w A1 M ⟨ts.set t (.func vpF [x]),freeze H [id]⟩ a:=by
 have Y:HSub H (freeze H [id]):=HSub.freeze _ _;obtain ⟨A1,D,O⟩:=hs.refreeze Y;have aa:∀ m,M (.b id)=some m->0<m.cap->¬ A1 m.b:=fun m hm h0 hA=>by
  obtain ⟨bx,ae,ac⟩:=D.heap.box (.b id) m hm;obtain ⟨V,g1,_⟩:=hs.heap.box (.b id) m hm;have h1:getB (freeze H [id]) (.b id)=some { V with frz:=true }:=by
   have g1':getB H (.b id)=some V:=g1;rw [xn9,g1'];simp [frzIf,Id.base]
  have h2':getB (freeze H [id]) (.b id)=some bx:=ae;rw [h1] at h2';simp only [z6] at h2';have:=(ac.guard h0).2 hA;rw [<-h2'] at this;simp at this
 unfold varOf at hv;split at hv
 case h_2=>simp at hv
 rename_i bx ab;split at hv
 case h_2=>simp at hv
 rename_i c hC W;split at hv
 case h_2=>simp at hv
 rename_i Z;simp only [z6] at hv;simp only [zg] at Z;obtain ⟨⟨⟨k1,k2⟩,k3⟩,k4⟩:=Z;have k1:=zh k1;have k2:=zh k2;have k3:=zh k3;have k4:=zh k4;subst k3 k4;refine ⟨A1,D.base,D.outer,by simp [D.size],fun t' J=>?_,D.heap,D.defers,D.ev⟩
 simp only [y8] at J;by_cases hd:t=t'
 . subst hd;simp only [xcc J];have h1:=hs.tmps t J;simp only at h1;rw [ht] at h1;have ad:xIb H (.b id) ver=some bx:=by unfold xIb;simp only [getB,ab];exact if_pos ⟨k2,xaH hC⟩
   obtain ⟨m,hm,q,e⟩:=xkQ hs.heap h1 ad;have hsz:m.sz=1:=by rw [<-q.sz];exact k1
   have af:bx.xs.length=1:=by rw [W];rfl
   have hcap:0<m.cap:=by have:=q.fits;omega
   obtain ⟨v0,c1,c2⟩:=q.cell (q.nomap (xaH hC)) (i:=0) (j:=0) (by omega) (by omega)
   rw [xar hC,W] at c2;rw [e];simp only [Nat.zero_mul,Nat.add_zero] at c1 |-;refine .vptr m.b 0 v0 x (aa m hm hcap) (q.lt hcap) c1 ?_;rw [<-hv];exact O.rel c2
 . simp only [xcd hd];exact D.tmps t' J
def SR.convs {w0 w:World} {A0:Cx} {a:Act}:∀ (cs:List (Nat×Nat×TypeId)) {A:Nat->Prop} {M:Id->Option MB} {ts:List AV} {H:List Box},SR w0 A0 w A M ⟨ts,H⟩ a->∃ A' M',SR w0 A0 w A' M' ⟨(Sim.convs cs ts H).1,(Sim.convs cs ts H).2⟩ a
 | [],A,M,_,_,h=>⟨A,M,h⟩
 | (t,sz,ty)::cs,A,M,ts,H,h=>by
  unfold Sim.convs;split
  . split
    . rename_i id ver i j ht;split
      . split
        . rename_i x hx;obtain ⟨A1,h1⟩:=h.vptr ht hx;exact SR.convs cs h1
        . exact SR.convs cs h
      . split
        . rename_i k hk;obtain ⟨A1,h1,_⟩:=h.settle (s1:=⟨ts,freeze H [k]⟩) ⟨[k],rfl,rfl,fun t'=>.inl rfl⟩
          exact SR.convs cs h1
        . exact SR.convs cs h
    . split
      . exact SR.convs cs h
      . rename_i cp _ _ _;obtain ⟨A1,h1,_⟩:=h.settle (s1:=⟨ts,freeze H ((refsOf.refsL cp).filterMap (mapOf H))⟩) ⟨_,rfl,rfl,fun t'=>.inl rfl⟩
        exact SR.convs cs h1
    . rename_i ht;refine SR.convs cs (A:=A) (M:=M) ⟨h.base,h.outer,by simp [h.size],fun t' q=>?_,h.heap,h.defers,h.ev⟩
      simp only [y8] at q;have h1:=h.tmps t' q;by_cases hd:t=t'
      . subst hd;simp only [xcc q];rw [ht] at h1;generalize a.tmps.getD t undef=v at h1;cases h1;exact .list0 _ _ _
      . simp only [xcd hd];exact h1
    . rename_i id ver off len ht;split
      . rename_i y hy;obtain ⟨A1,h1,_⟩:=h.settle (s1:=⟨ts.set t y,freeze H (reach H xIs (.osl (.b id) ver off len))⟩) ⟨_,rfl,by simp,fun t'=>by
         by_cases hd:t=t'
         . subst hd;by_cases D:t<ts.length
           . right;simp only [xcc D];rw [ht];exact ⟨hy,fun _ h=>h⟩
           . left;simp only [List.set_eq_of_length_le (Nat.le_of_not_lt D)]
         . left;simp only [xcd hd]⟩
        exact SR.convs cs h1
      . exact SR.convs cs h
    . exact SR.convs cs h
  . split
    . rename_i ht;obtain ⟨M',h'⟩:=h.conv1 (sz:=sz) (ty:=ty) ht;exact SR.convs cs h'
    . obtain ⟨M',h1,h2⟩:=h.heap.convH sz ty (id:=_);exact SR.convs cs ⟨h.base,h.outer,h.size,fun t' q=>h2.rel (h.tmps t' q),h1,h.defers,h.ev.step h2⟩
    . exact SR.convs cs ⟨h.base,h.outer,h.size,h.tmps,h.heap.shrH sz _ _,h.defers,h.ev⟩
    . exact SR.convs cs h
def Weak (p:Nat) (s s':St):Prop:=∀ (w0:World) (A0:Cx) (w:World) (A:Nat->Prop) (M:Id->Option MB) (a:Act),A0.pin<=p->SR w0 A0 w A M s a->∃ A' M',SR w0 A0 w A' M' s' a
def Weak.refl (p:Nat) (s:St):Weak p s s:=fun _ _ _ A M _ _ h=>⟨A,M,h⟩
def xkP {pin:Nat} {conv:List (Nat×Nat×TypeId)} {live:List Nat} {s:St} {vals:List AV} {H':List Box} (h:normS pin conv live s=some (vals,H')):Weak pin s ⟨mkTs s.tmps.length (live.zip vals),H'⟩:=by
 intro w0 A0 w A M a hp hs;obtain ⟨A1,M1,h1⟩:=SR.convs conv hs
 unfold normS at h;simp only at h;generalize Sim.convs conv s.tmps s.heap=c at h h1
 generalize gather c.2 1000 (List.range pin++refsOf.refsL (liveOf live c.1)) []=ids at h;split at h
 case h_2=>simp at h
 rename_i hc;simp only [zg] at hc;split at h
 case h_2=>simp at h
 rename_i H1 hH;simp only [z6,zb] at h;obtain ⟨rfl,rfl⟩:=h;obtain ⟨M2,g1,g2,g3,g4⟩:=h1.heap.norm hc.1 hc.2 hH;have q:c.1.length=s.tmps.length:=by rw [<-h1.size,hs.size]
 refine ⟨A1,M2,h1.base,h1.outer,by rw [xhv,<-q];exact h1.size,fun t ht=>?_,g1,h1.defers,h1.ev.norm hp g3 g4⟩
 simp only [xrb];rcases xql s.tmps.length (rens (normF pin ids c.2) c.1) (by rw [xbF];exact q) t live with e|e
 . rw [e,xf6];simp only [xhv] at ht;exact (h1.tmps t (by simp only [];omega)).ren g2
 . rw [e];exact .top _
def Does (P:Program) (Inv:IV) (c:Code) (Q:Exit->St->Prop) (s:St):Prop :=
 ∀ (w0:World) (A0:Cx) (w:World) (A:Nat->Prop) (M:Id->Option MB) (a:Act) (Qc:Exit->Act->World->Prop),Inv w0->A0.pin<=Inv.pin->SR w0 A0 w A M s a->(∀ e s' a' w',Q e s'->SOk w0 A0 s' a' w'->Qc e a' w')->∀ ro:Option Nat,(Inv.top=true->ro=none)->c.wpIn (wideR ro) 0 P Qc a w
section rules
variable {P : Program} {Inv : IV} {Q : Exit -> St -> Prop} {s : St}
def xdw {c:Code} {Q':Exit->St->Prop} (h:Does P Inv c Q s) (hq:∀ e s,Q e s->Q' e s):Does P Inv c Q' s :=
 fun w0 A0 w A M a Qc hI hp hs hQ=>h w0 A0 w A M a Qc hI hp hs fun e s' a' w' q=>hQ e s' a' w' (hq e s' q)
def xCN (h:Q .normal s):Does P Inv .skip Q s:=fun w0 A0 w A M a Qc hI hp hs hQ ro _=>wpIn_skip (hQ _ _ _ _ h ⟨A,M,hs⟩)
def xCM {id:Nat} (h:Q (.exit id) s):Does P Inv (.exit id) Q s:=fun w0 A0 w A M a Qc hI hp hs hQ ro _=>wpIn_exit (hQ _ _ _ _ h ⟨A,M,hs⟩)
def xEe (h:Q .ret s):Does P Inv .ret Q s:=fun w0 A0 w A M a Qc hI hp hs hQ ro _=>wpIn_ret (hQ _ _ _ _ h ⟨A,M,hs⟩)
def thenQ (next:St->Prop) (Q:Exit->St->Prop):Exit->St->Prop
 | .normal,s=>next s
 | e,s=>Q e s
def blockQ (id:Nat) (Q:Exit->St->Prop):Exit->St->Prop
 | .exit id',s=>if id'=id then Q .normal s else Q (.exit id') s
 | e,s=>Q e s
def xqQ {x y:Code} (h:Does P Inv x (thenQ (Does P Inv y Q) Q) s):Does P Inv (.seq x y) Q s:=fun w0 A0 w A M a Qc hI hp hs hQ ro q =>
 wpIn_seq (h w0 A0 w A M a _ hI hp hs (fun e s' a' w' hq D=>by
  cases e with
  | normal=>obtain ⟨A',M',J⟩:=D;exact hq w0 A0 w' A' M' a' Qc hI hp J hQ ro q
  | _=>exact hQ _ _ _ _ hq D) ro q)
def xBo {id:Nat} {c:Code} (h:Does P Inv c (blockQ id Q) s):Does P Inv (.block id c) Q s:=fun w0 A0 w A M a Qc hI hp hs hQ ro D =>
 wpIn_block (h w0 A0 w A M a _ hI hp hs (fun e s' a' w' hq q=>by
  cases e with
  | exit id' =>
   simp only [blockQ] at hq;simp only [Exit.inBlock];split<;>rename_i J<;>simp only [J,if_true,if_false] at hq
   . exact hQ _ _ _ _ hq q
   . exact hQ _ _ _ _ hq q
  | _=>exact hQ _ _ _ _ hq q) ro D)
def xCL {c:Operand} {x y:Code} {t:Bool} (hc:s.eval c=.bool t) (ht:t=true->Does P Inv x Q s) (hf:t=false->Does P Inv y Q s):Does P Inv (.cond c x y) Q s:=fun w0 A0 w A M a Qc hI hp hs hQ ro q=>by
 have:=hs.eval c;rw [hc] at this;exact wpIn_cond_split this.bool_inv (fun h=>ht h w0 A0 w A M a Qc hI hp hs hQ ro q) (fun h=>hf h w0 A0 w A M a Qc hI hp hs hQ ro q)
def xpi (q:InvOk Inv) {id:Nat} {ops:Array Oper} {s':St} (D:noDefer ops=true) (hp:Path (OpA P Inv) ops ops.toList s s') (h:Q .normal s'):Does P Inv (.region id ops false) Q s:=fun w0 A0 w A M a Qc hI _ hs hQ ro _ =>
 xzC q hI D hp hs (fun a' w' J=>hQ _ _ _ _ h J) ro
def xph (J:P.follows .mixedOrders=true) (D:InvOk Inv) {id:Nat} {ops:Array Oper} {s1 s':St} {wf:Bool} (m:Nat) (O:noDefer ops=true) (q:regOk wf ops m=true) (hm:m<=ops.size) (hF:Path (OpF P Inv) ops (ops.toList.take m) s s1) (hT:TPath P Inv ops m m (ops.toList.drop m) s1 s') (V:∀ i o,i<m->ops[i]?=some o->xIz wf ops m i=true->xIj ops s1.tmps o=some true->ptrOk s1.eval o.op=true) (h:Q .normal s'):Does P Inv (.region id ops true) Q s:=fun w0 A0 w A M a Qc hI _ hs hQ ro _ =>
 xwN J D hI O q hm hF hT V hs (fun a' w' q=>hQ _ _ _ _ h q) ro
def DoesL (P:Program) (Inv:IV) (c:Code) (Q:Exit->St->Prop) (s:St):Prop :=
 ∀ (w0:World) (A0:Cx) (w:World) (A:Nat->Prop) (M:Id->Option MB) (a:Act) (Qc:Exit->Act->World->Prop),Inv w0->A0.pin<=Inv.pin->SR w0 A0 w A M s a->(∀ e s' a' w',Q e s'->SOk w0 A0 s' a' w'->Qc e a' w') ->
  ∀ (b:Frame) (k:List Item) (cs:List Frame),(Inv.top=true->b.roundOf=none)->∃ e a' w',Qc e a' w'/\ArrivesIn (Machine.fenced P (wideR b.roundOf)) P (lone (b.atR a (.code c::.inLoop c::k)) cs w) b k cs e a' w'
def xuv {c:Code} {Q':Exit->St->Prop} (h:DoesL P Inv c Q s) (hq:∀ e s,Q e s->Q' e s):DoesL P Inv c Q' s :=
 fun w0 A0 w A M a Qc hI hp hs hQ=>h w0 A0 w A M a Qc hI hp hs fun e s' a' w' q=>hQ e s' a' w' (hq e s' q)
def xyK {c:Code} (h:DoesL P Inv c Q s):Does P Inv (.loop c) Q s:=fun w0 A0 w A M a Qc hI hp hs hQ ro D=>by
 intro b k cs hb _ _;have hb:b.roundOf=ro:=hb;subst hb;obtain ⟨e,a',w',hq,q⟩:=h w0 A0 w A M a Qc hI hp hs hQ b k cs D;exact ⟨e,a',w',hq,.of_steps (.one (xlE _ P _) stepR_loop) q⟩
def xzJ {c:Code} (h:Does P Inv c (thenQ (DoesL P Inv c Q) Q) s):DoesL P Inv c Q s:=fun w0 A0 w A M a Qc hI hp hs hQ=>by
 intro b k cs J;obtain ⟨e,a₁,w₁,hq,q⟩:=h w0 A0 w A M a (fun e a' w'=>match e with|.normal=>∃ s',DoesL P Inv c Q s'/\SOk w0 A0 s' a' w'|e=>Qc e a' w') hI hp hs (fun e s' a' w' hq O=>by
  cases e with
  | normal=>exact ⟨s',hq,O⟩
  | _=>exact hQ _ _ _ _ hq O) b.roundOf J b (.inLoop c::k) cs rfl (xsc _ _) (xpr _ _)
 cases e with
 | normal =>
  obtain ⟨s',k1,A',M',W⟩:=hq;obtain ⟨e₂,a₂,w₂,V,D⟩:=k1 w0 A0 w₁ A' M' a₁ Qc hI hp W hQ b k cs J;exact ⟨e₂,a₂,w₂,V,.of_steps (StepsIn.trans q (.one (xlE _ P _) stepR_inLoop)) D⟩
 | exit id=>exact ⟨_,a₁,w₁,hq,.pass (x:=.inLoop c) rfl (fun _ _=>.inl (by simp)) q⟩
 | goto l=>exact ⟨_,a₁,w₁,hq,.pass (x:=.inLoop c) rfl (fun _ _=>.inl (by simp)) q⟩
 | ret=>exact ⟨_,a₁,w₁,hq,.pass (x:=.inLoop c) rfl (fun _ _=>.inl (by simp)) q⟩
 | panic ch=>exact ⟨_,a₁,w₁,hq,.pass (x:=.inLoop c) rfl (fun _ _=>.inl (by simp)) q⟩
 | outgrown=>exact ⟨_,a₁,w₁,hq,.pass (x:=.inLoop c) rfl (fun _ _=>.inl (by simp)) q⟩
def xuw {c:Code} (I:Nat->St->Prop) {n0:Nat} {s0:St} (hw:Weak Inv.pin s s0) (h1:I n0 s0)
  (V:∀ n s,I n s->Does P Inv c (thenQ (fun s'=>∃ n' D,n'<n/\Weak Inv.pin s' D/\I n' D) Q) s):DoesL P Inv c Q s:=fun w0 A0 w A M a Qc hI hp hs hQ=>by
 intro b k cs aa;have key:∀ n s,I n s->∀ w A M a,SR w0 A0 w A M s a->∃ e a' w',Qc e a' w'/\ArrivesIn (Machine.fenced P (wideR b.roundOf)) P (lone (b.atR a (.code c::.inLoop c::k)) cs w) b k cs e a' w':=by
  intro n;induction n using Nat.strongRecOn with
  | _ n ih =>
   intro s ab w A M a hs;obtain ⟨e,a₁,w₁,hq,q⟩:=V n s ab w0 A0 w A M a (fun e a' w'=>match e with|.normal=>∃ n' D,n'<n/\I n' D/\SOk w0 A0 D a' w'|e=>Qc e a' w') hI hp hs (fun e s' a' w' hq Y=>by
    cases e with
    | normal =>
     obtain ⟨A',M',O⟩:=Y;obtain ⟨n',D,k1,k2,k3⟩:=hq;obtain ⟨A'',M'',J⟩:=k2 w0 A0 w' A' M' a' hp O;exact ⟨n',D,k1,k3,A'',M'',J⟩
    | _=>exact hQ _ _ _ _ hq Y) b.roundOf aa b (.inLoop c::k) cs rfl (xsc _ _) (xpr _ _)
   cases e with
   | normal =>
    obtain ⟨n',D,k1,k2,A',M',J⟩:=hq;obtain ⟨e₂,a₂,w₂,Z,W⟩:=ih n' k1 D k2 w₁ A' M' a₁ J;exact ⟨e₂,a₂,w₂,Z,.of_steps (StepsIn.trans q (.one (xlE _ P _) stepR_inLoop)) W⟩
   | exit id=>exact ⟨_,a₁,w₁,hq,.pass (x:=.inLoop c) rfl (fun _ _=>.inl (by simp)) q⟩
   | goto l=>exact ⟨_,a₁,w₁,hq,.pass (x:=.inLoop c) rfl (fun _ _=>.inl (by simp)) q⟩
   | ret=>exact ⟨_,a₁,w₁,hq,.pass (x:=.inLoop c) rfl (fun _ _=>.inl (by simp)) q⟩
   | panic ch=>exact ⟨_,a₁,w₁,hq,.pass (x:=.inLoop c) rfl (fun _ _=>.inl (by simp)) q⟩
   | outgrown=>exact ⟨_,a₁,w₁,hq,.pass (x:=.inLoop c) rfl (fun _ _=>.inl (by simp)) q⟩
 obtain ⟨A',M',O⟩:=hw w0 A0 w A M a hp hs;exact key n0 s0 h1 w A' M' a O
def xBp {c:Code} (I:Nat->St->Prop) {n0:Nat} {s0:St} (hw:Weak Inv.pin s s0) (h1:I n0 s0)
 (q:∀ n s,I n s->Does P Inv c (thenQ (fun s'=>∃ n' s'',n'<n/\Weak Inv.pin s' s''/\I n' s'') Q) s):Does P Inv (.loop c) Q s:=xyK (xuw I hw h1 q)
end rules
def resVal (P:Program) (s:St):ResultVar->Option AV
 | .tmp t=>some (s.tmps.getD t .top)
 | .cell a t=>match xH7 P t with
  | some ti=>xI0 s.heap ti (s.tmps.getD a .top)
  | none=>none
def resAll (P:Program) (s:St):List ResultVar->Option (List AV)
 | []=>some []
 | r::rs=>match resVal P s r,resAll P s rs with
  | some x,some xs=>match resolve s.heap xIs x with
   | some y=>some (y::xs)
   | none=>none
  | _,_=>none
def xIp:List AV->AV
 | [x]=>x
 | xs=>.tuple xs
def resultOf (P:Program) (rs:List ResultVar) (s:St):Option AV :=
 match resAll P s rs with
 | some xs=>some (xIp xs)
 | none=>none
def resF (tmps:Array Value):ResultVar->Go.Sem Value
 | .tmp t=>pure (tmps.getD t undef)
 | .cell b t=>do loadVar t (<-asAddr (tmps.getD b undef))
def xsU (fn:Func) (tmps:Array Value):results fn tmps=(do let vs <-fn.results.mapM (resF tmps);pure (if h:vs.size=1 then vs[0] else .tuple vs)):=by
 unfold results;congr 1
section
variable {P : Program} {Inv : IV}
def xsT {w0 w:World} {A0:Cx} {A:Nat->Prop} {M:Id->Option MB} {s:St} {a:Act} (hs:SR w0 A0 w A M s a) {r:ResultVar} {x:AV} (h:resVal P s r=some x) :
  ∃ v,(resF a.tmps r).run P w=.ok v w/\Rel w A M v x:=by
 cases r with
 | tmp t =>
  simp only [resVal,z6] at h;have:=hs.eval (.tmp t);simp only [St.eval,Act.eval] at this;rw [h] at this;exact ⟨_,rfl,this⟩
 | cell b t =>
  simp only [resVal] at h;split at h
  case h_2=>simp at h
  rename_i ti D;have hb:=hs.eval (.tmp b);simp only [St.eval,Act.eval] at hb;obtain ⟨u,hu,J⟩:=xqj D hs.heap hb h;refine ⟨u,?_,J⟩;have hp:∃ ad,a.tmps.getD b undef=.pointer (some ad):=by
   unfold xI0 at h;split at h
   . rename_i hx;rw [hx] at hb;obtain ⟨b',o',e,_⟩:=xnL hb;exact ⟨_,e⟩
   . rename_i id ver i j hx;rw [hx] at hb;split at h
     case h_2=>simp at h
     rename_i bx q;obtain ⟨m,_,_,e⟩:=xkQ hs.heap hb q;exact ⟨_,e⟩
   . rename_i f cs hx;rw [hx] at hb;split at h
     . rename_i x' O;have hf:=zh O;subst hf;obtain ⟨b',o',v0,e,_⟩:=hb.vptr_inv;exact ⟨_,e⟩
     . simp at h
   . simp at h
  obtain ⟨ad,hp⟩:=hp;show (do loadVar t (<-asAddr (a.tmps.getD b undef)):Go.Sem Value).run P w=_
  rw [hp] at hu |-;simpa [Instr.loadAt,Instr.sureAddr,asAddr] using hu
def xsR {w0 w:World} {A0:Cx} {A:Nat->Prop} {M:Id->Option MB} {s:St} {a:Act} (hs:SR w0 A0 w A M s a) (q:∀ b,A0.av b->b<w0.heap.size):∀ {rs:List ResultVar} {xs:List AV},resAll P s rs=some xs ->
  ∃ vs,(rs.mapM (resF a.tmps)).run P w=.ok vs w/\RC w A0.av xIl vs xs
 | [],xs,h=>by
  simp only [resAll,z6] at h;subst h;exact ⟨[],by simp,rfl,by simp⟩
 | r::rs,xs,h=>by
  unfold resAll at h;split at h
  case h_2=>simp at h
  rename_i x ys hx W;split at h
  case h_2=>simp at h
  rename_i y hy;cases h;obtain ⟨v,hv,V⟩:=xsT hs hx;obtain ⟨vs,Y,D⟩:=xsR hs q W;refine ⟨v::vs,?_,?_⟩
  . rw [List.mapM_cons];simp only [Sem.run_bind,hv,Y,Result.andThen_ok,Sem.run_pure]
  . have hy':Rel w A0.av xIl v y:=xcV hs.heap (fun b hb h=>(hs.outer b (q b h)).2 h) xIs v x y V hy fun id _ m hm O hA=>by
     obtain ⟨bx,_,J⟩:=hs.heap.box id m hm;have:=J.low O;have:=q _ hA;omega
    refine ⟨by simp [D.1],fun i hi=>?_⟩
    cases i with
    | zero=>simpa using hy'
    | succ i=>have:=D.2 i (by simp at hi;omega);simpa using this
def xwQ {w0 w:World} {A0:Cx} {A:Nat->Prop} {M:Id->Option MB} {s:St} {a:Act} (hs:SR w0 A0 w A M s a) (J:∀ b,A0.av b->b<w0.heap.size) {fn:Func} {r:AV} (h:resultOf P fn.results.toList s=some r) :
  ∃ v,(results fn a.tmps).run P w=.ok v w/\Rel w A0.av xIl v r:=by
 unfold resultOf at h;split at h
 case h_2=>simp at h
 rename_i xs D;cases h;obtain ⟨vs,O,q⟩:=xsR (P:=P) hs J D;refine ⟨if h:vs.toArray.size=1 then vs.toArray[0] else .tuple vs.toArray,?_,?_⟩
 . rw [xsU,Array.mapM_eq_mapM_toList];simp only [Sem.run_bind,Sem.run_map,O,Result.andThen_ok,Sem.run_pure]
 . have hl:=q.1;have hr:=q.2;match vs,xs,hl,hr with
   | [v],[x],_,hr=>simpa [xIp] using hr 0 (by simp)
   | [],[],_,_=>simpa [xIp] using Rel.tuple (w:=w) (A:=A0.av) (M:=xIl) #[] [] rfl (by simp)
   | v1::v2::vs,x1::x2::xs,hl,hr =>
    have hne:¬ (v1::v2::vs).toArray.size=1:=by simp
    rw [dif_neg hne];simp only [xIp];refine .tuple _ _ (by simpa using hl) fun i hi=>?_
    rw [xfo];exact hr i hi
def xqe {w0:World} {A0:Cx} {fn:Func} {R:Ending->World->Prop} (J:∀ D,¬ A0.df D):∀ (L:List Nat) {w:World} {A:Nat->Prop} {M:Id->Option MB} {s:St} {a:Act},L.Nodup->(∀ D,D∈L->w0.heap.size<=D/\(A0.df D\/A0.w1.heap.size<=D)/\w.heap[D]?=some (.deferred (some [])))->SR w0 A0 w A M s { a with defers:=L.map rmark } ->
  (∀ w',SR w0 A0 w' A M s { a with defers:=[] }->∃ v,(results fn a.tmps).run P w'=.ok v w'/\R (.returned v) w')->LeavesInM Fence.wide 0 P fn a.tmps R (L.map rmark) .returning w
 | [],w,A,M,s,a,_,_,hs,h=>by
  obtain ⟨v,h1,h2⟩:=h w hs;exact ⟨v,h1,h2⟩
 | D::L,w,A,M,s,a,hn,hD,hs,h=>by
  have hd:=hD D (by simp)
  rw [List.nodup_cons] at hn;have q:∀ D',D'∈L->w0.heap.size<=D'/\(A0.df D'\/A0.w1.heap.size<=D')/\(w.putObj D (.deferred none)).heap[D']?=some (.deferred (some [])):=fun D' h'=>by
   have:=hD D' (by simp [h'])
   exact ⟨this.1,this.2.1,by rw [World.putObj_heap_other (show D'≠D from fun e=>hn.1 (by rw [<-e];exact h'))];exact this.2.2⟩
  refine ⟨by simp,.inl ⟨D,_,rfl,run_takeDeferred hd.2.2,?_⟩⟩
  have O:SR w0 A0 (w.putObj D (.deferred none)) A M s { a with defers:=L.map rmark }:=hs.turn (o':=.deferred none) hd.2.2 ⟨by simp,by simp⟩ hd.1 (hd.2.1.resolve_left (J D)) ⟨L,rfl,hn.2,q⟩
  exact xqe J L hn.2 q O h
def xnT {w0 w:World} {A0:Cx} {A:Nat->Prop} {M:Id->Option MB} {s:St} {a:Act} {fn:Func} {R:Ending->World->Prop} (q:∀ D,¬ A0.df D) (hs:SR w0 A0 w A M s a)
  (h:∀ w',SR w0 A0 w' A M s { a with defers:=[] }->∃ v,(results fn a.tmps).run P w'=.ok v w'/\R (.returned v) w'):LeavesInM Fence.wide 0 P fn a.tmps R a.defers .returning w:=by
 obtain ⟨L,h1,h2,h3⟩:=hs.defers;rw [h1];refine xqe q L h2 h3 ?_ h;rw [<-h1];exact hs
def xyp (W:InvOk Inv) {f:FuncId} {fn:Func} {c:Code} {args:List AV} {r:AV} (hf:P.funcs[f]?=some fn) (hb:fn.body=some c) (J:(fn.name == "runtime.NumGoroutine")=false)
  (h:Does P Inv c (fun e s=>(e=.ret\/e=.normal)/\resultOf P fn.results.toList s=some r) ⟨args++List.replicate (fn.ntmps - args.length) (.tuple []),[]⟩):Good P Inv f args r:=by
 refine ⟨⟨fn,hf,by rw [hb];rfl,J⟩,fun w A vs hI hA D=>?_⟩
 refine callsIn_wide.1 (callsIn_of_wp_marks (F:=Fence.wide) (n:=0) hf hb trivial ?_);refine h w ⟨A,w,A,xIl,0,fun _=>False⟩ w A xIl _ _ hI (zR _) ⟨Below.refl _ _,fun _ _=>Iff.rfl,?_,fun t ht=>?_,⟨fun id m hm=>by simp [xIl] at hm,fun _ _ _ _ h=>by simp [xIl] at h,hA⟩,DefOk.nil,Ev.refl (C:=⟨A,w,A,xIl,0,fun _=>False⟩)⟩ ?_ none (fun _=>rfl)
 . simp [D.1]
 . simp only [z8,List.length_replicate] at ht;have hl:=D.1;by_cases O:t<args.length
   . have e1:(vs.toArray++Array.replicate (fn.ntmps - vs.toArray.size) undef).getD t undef=vs.getD t undef:=by
      have:t<vs.length:=by omega
      simp [z7,Array.getElem?_append,this]
     have e2:(args++List.replicate (fn.ntmps - args.length) (AV.tuple [])).getD t .top=args.getD t .top:=by
      simp [z7,zQ,O]
     rw [e1,e2];exact D.2 t O
   . have h1:¬ t<vs.length:=by omega
     have e1:(vs.toArray++Array.replicate (fn.ntmps - vs.toArray.size) undef).getD t undef=undef:=by
      have h2:t - vs.length<fn.ntmps - vs.length:=by omega
      simp [Array.getElem?_append,h1,h2]
     have e2:(args++List.replicate (fn.ntmps - args.length) (AV.tuple [])).getD t .top=.tuple []:=by
      have h2:t - args.length<fn.ntmps - args.length:=by omega
      simp [z7,zQ,O,h2]
     rw [e1,e2];exact .tuple #[] [] rfl (by simp)
 . rintro e s' a' w' ⟨he,hr⟩ ⟨A',M',q⟩;have:LeavesInM Fence.wide 0 P fn a'.tmps (fun e w'=>∃ v,e=.returned v/\Below w.heap.size w w'/\Rel w' A xIl v r) a'.defers .returning w':=xnT (fun _ h=>h) q fun w' q=>by
    obtain ⟨v,hv,V⟩:=xwQ (P:=P) q hA hr;exact ⟨v,hv,v,rfl,q.base,V⟩
   rcases he with rfl|rfl<;>exact this
end
end Go.Sim
namespace Go.Sim
open Go.RowKit
def both (t:Bool) (a b:Prop):Prop:=(t=true->a)/\(t=false->b)
def CallK (P:Program) (Inv:IV) (s:St) (c:Call) (d:Option Tmp) (K:St->Prop):Prop :=
 ∃ s',(OpF P Inv s ⟨d,.call c,0, "",#[],none⟩ s'\/OpI P Inv s ⟨d,.call c,0, "",#[],none⟩ s')/\K s'
def CallF (P:Program) (Inv:IV) (s:St) (c:Call) (d:Option Tmp) (K:St->Prop):Prop :=
 ∃ s',OpF P Inv s ⟨d,.call c,0, "",#[],none⟩ s'/\K s'
def fstep (P:Program) (o:Oper) (s:St) (K:St->Prop):Prop :=
 match fop P s.eval s.heap s.heap.length o.op with
 | some (x,nb)=>K ⟨putT s.tmps o.dst x,s.heap++nb.toList⟩
 | none=>False
def istep (P:Program) (o:Oper) (s:St) (K:St->Prop):Prop :=
 match iop P s.eval s.heap o.op with
 | some (x,H)=>K ⟨putT s.tmps o.dst x,H⟩
 | none=>False
def isImp:Op->Bool
 | .store _ _ _=>true
 | .call c=>match c.callee with
  | .builtin .append=>true
  | _=>false
 | .lookup _ _ _ _=>true
 | .mapUpdate _ _ _ _=>true
 | .makeMap _ _=>true
 | _=>false
def stepF (P:Program) (Inv:IV) (o:Oper) (s:St) (K:St->Prop):Prop :=
 match o.op with
 | .pick c a b=>match s.eval c with
  | .bool t=>both t (K ⟨putT s.tmps o.dst (s.eval a),s.heap⟩) (K ⟨putT s.tmps o.dst (s.eval b),s.heap⟩)
  | _=>False
 | .call c=>match c.callee with
  | .value _=>CallF P Inv s c o.dst K
  | _=>fstep P o s K
 | _=>fstep P o s K
def stepA (P:Program) (Inv:IV) (o:Oper) (s:St) (K:St->Prop):Prop :=
 match o.op with
 | .pick c a b=>match s.eval c with
  | .bool t=>both t (K ⟨putT s.tmps o.dst (s.eval a),s.heap⟩) (K ⟨putT s.tmps o.dst (s.eval b),s.heap⟩)
  | _=>False
 | .call c=>match c.callee with
  | .value _=>CallK P Inv s c o.dst K
  | _=>if isImp o.op=true then istep P o s K else fstep P o s K
 | _=>if isImp o.op=true then istep P o s K else fstep P o s K
section
variable {P : Program} {Inv : IV}
def xui {s s':St} {o:Oper} {c:Call} (ho:o.op=.call c) (h:OpF P Inv s ⟨o.dst,.call c,0, "",#[],none⟩ s'):OpF P Inv s o s':=by
 rcases h with ⟨x,nb,h1,h2⟩|⟨c',g,args,q,r,h1,h2⟩|⟨c',g,args,q,v,k,bx,h1,h2⟩
 . exact .inl ⟨x,nb,by rw [ho];exact h1,h2⟩
 . simp only [Op.call.injEq] at h1;subst h1;exact .inr (.inl ⟨c,g,args,q,r,ho,h2⟩)
 . simp only [Op.call.injEq] at h1;subst h1;exact .inr (.inr ⟨c,g,args,q,v,k,bx,ho,h2⟩)
def xsG {s s':St} {o:Oper} {c:Call} (ho:o.op=.call c) (h:OpI0 P Inv s ⟨o.dst,.call c,0, "",#[],none⟩ s'):OpI0 P Inv s o s':=by
 rcases h with ⟨x,H',h1,h2⟩|⟨c',g,args,ids,H0,r0,H0',h1,h2⟩|⟨s1,x,nb,h1,h2,h3⟩
 . exact .inl ⟨x,H',by rw [ho];exact h1,h2⟩
 . simp only [Op.call.injEq] at h1;subst h1;exact .inr (.inl ⟨c,g,args,ids,H0,r0,H0',ho,h2⟩)
 . exact .inr (.inr ⟨s1,x,nb,h1,by rw [ho];exact h2,h3⟩)
def xA6 {s s':St} {o:Oper} {c:Call} (ho:o.op=.call c) (h:OpI P Inv s ⟨o.dst,.call c,0, "",#[],none⟩ s'):OpI P Inv s o s':=by
 rcases h with h|⟨s1,h1,h2⟩|⟨s1,x,H',h1,h2,h3⟩
 . exact .inl (xsG ho h)
 . exact .inr (.inl ⟨s1,h1,xsG ho h2⟩)
 . exact .inr (.inr ⟨s1,x,H',h1,by rw [ho];exact h2,h3⟩)
def xlH {o:Oper} {s:St} {K:St->Prop} (h:fstep P o s K):∃ s',OpF P Inv s o s'/\K s':=by
 unfold fstep at h;split at h
 . rename_i x nb hx;exact ⟨_,.inl ⟨x,nb,.inl hx,rfl⟩,h⟩
 . exact h.elim
def xra {o:Oper} {s:St} {K:St->Prop} (h:istep P o s K):∃ s',OpI P Inv s o s'/\K s':=by
 unfold istep at h;split at h
 . rename_i x H hx;exact ⟨_,.inl (.inl ⟨x,H,hx,rfl⟩),h⟩
 . exact h.elim
def xsJ {o:Oper} {s:St} {K:St->Prop} {c a b:Operand} (ho:o.op=.pick c a b) {t:Bool} (hc:s.eval c=.bool t) (h:both t (K ⟨putT s.tmps o.dst (s.eval a),s.heap⟩) (K ⟨putT s.tmps o.dst (s.eval b),s.heap⟩)):∃ s',OpF P Inv s o s'/\K s':=by
 refine ⟨⟨putT s.tmps o.dst (if t=true then s.eval a else s.eval b),s.heap⟩,.inl ⟨if t=true then s.eval a else s.eval b,none,.inl (by simp only [ho,fop,hc]),by simp⟩,?_⟩
 cases t
 . exact h.2 rfl
 . exact h.1 rfl
def xrs {o:Oper} {s:St} {K:St->Prop} (h:stepF P Inv o s K):∃ s',OpF P Inv s o s'/\K s':=by
 unfold stepF at h;split at h
 . rename_i c a b ho;split at h
   . rename_i t ht;exact xsJ ho ht h
   . exact h.elim
 . rename_i c ho;split at h
   . obtain ⟨s',h1,h2⟩:=h;exact ⟨s',xui ho h1,h2⟩
   . exact xlH h
 . exact xlH h
def xwT {o:Oper} {s:St} {K:St->Prop} (h:stepA P Inv o s K):∃ s',OpA P Inv s o s'/\K s':=by
 unfold stepA at h;split at h
 . rename_i c a b ho;split at h
   . rename_i t ht;obtain ⟨s',h1,h2⟩:=xsJ (P:=P) (Inv:=Inv) ho ht h;exact ⟨s',.inl h1,h2⟩
   . exact h.elim
 . rename_i c ho;split at h
   . obtain ⟨s',h1,h2⟩:=h;rcases h1 with h1|h1
     . exact ⟨s',.inl (xui ho h1),h2⟩
     . exact ⟨s',.inr (xA6 ho h1),h2⟩
   . split at h
     . obtain ⟨s',h1,h2⟩:=xra (Inv:=Inv) h;exact ⟨s',.inr h1,h2⟩
     . obtain ⟨s',h1,h2⟩:=xlH (Inv:=Inv) h;exact ⟨s',.inl h1,h2⟩
 . split at h
   . obtain ⟨s',h1,h2⟩:=xra (Inv:=Inv) h;exact ⟨s',.inr h1,h2⟩
   . obtain ⟨s',h1,h2⟩:=xlH (Inv:=Inv) h;exact ⟨s',.inl h1,h2⟩
def xy2 {s:St} {c:Call} {d:Option Tmp} {K:St->Prop} {g:FuncId} {args q:List AV} {r:AV} (D:xIW s c=some (g,args)) (hm:mapO (resolve s.heap xIs) args=some q) (hg:Good P Inv g q r)
  (hK:K ⟨putT s.tmps d r,xIL s.heap args r⟩):CallF P Inv s c d K :=
 ⟨_,.inr (.inl ⟨c,g,args,q,r,rfl,D,hm,hg,rfl⟩),hK⟩
def xy3 {s:St} {c:Call} {d:Option Tmp} {K:St->Prop} {g:FuncId} {args q:List AV} {v k:Nat} {bx:Box} (J:xIW s c=some (g,args)) (hm:mapO (resolve s.heap xIs) args=some q) (hg:GoodM P Inv g q [] (.osl (.b 0) v 0 k) [bx]) (O:isC bx.ty=false) (D:bx.pm=true)
  (hK:K ⟨putT s.tmps d (.osl (.b s.heap.length) v 0 k),freeze s.heap (args.flatMap (reach s.heap xIs))++[bx]⟩):CallF P Inv s c d K :=
 ⟨_,.inr (.inr ⟨c,g,args,q,v,k,bx,rfl,J,hm,hg,O,D,rfl⟩),hK⟩
def xtL {a b:Prop} (h:a):both true a b:=⟨fun _=>h,fun e=>by simp at e⟩
def xsh {a b:Prop} (h:b):both false a b:=⟨fun e=>by simp at e,fun _=>h⟩
def xpj {ts:List AV} {d:Nat} {x:AV} (h:ts[d]?=some x):ts.set d x=ts:=by
 apply List.ext_getElem?;intro i;by_cases hi:d=i
 . subst hi;have:d<ts.length:=by
    rcases zK d ts.length with h'|h'
    . exact h'
    . rw [zA h'] at h;simp at h
   simp [this];rw [zf this] at h;simpa using h.symm
 . simp [zY hi]
end
end Go.Sim
end
