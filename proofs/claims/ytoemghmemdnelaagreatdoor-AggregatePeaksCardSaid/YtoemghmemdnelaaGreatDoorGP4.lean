/- Part 4 of the proof of the law. -/
import Derived.Test.YtoemghmemdnelaaGreatDoorGP3
set_option linter.unusedVariables false
set_option linter.unusedSimpArgs false
set_option linter.unnecessarySimpa false
noncomputable section
namespace Go.Sim
open Go.RowKit
structure St where
 tmps:List AV
 heap:List Box
structure IV where
 inv:World→Prop
 pin:Nat
instance:CoeFun IV fun _=>World→Prop:=⟨IV.inv⟩
structure Cx where
 av:Nat→Prop
 w1:World
 A1:Nat→Prop
 M1:Id→Option MB
 pin:Nat
structure Ev (C:Cx) (w:World) (A:Nat→Prop) (M:Id→Option MB):Prop where
 size:C.w1.heap.size≤w.heap.size
 keep:∀ b,b<C.w1.heap.size→(¬ C.A1 b∨∀ id m,C.M1 id=some m→0<m.cap→m.b≠b)→w.heap[b]?=C.w1.heap[b]?
 less:∀ b,b<C.w1.heap.size→A b→C.A1 b
 more:∀ b,b<C.w1.heap.size→C.A1 b→(∀ id m,C.M1 id=some m→0<m.cap→m.b≠b)→A b
 ids:∀ id m,id.base<C.pin→C.M1 id=some m→∃ m',M id=some m'∧(m'=m∨m.ver<m'.ver)
 src:∀ id m',M id=some m'→0<m'.cap→(∃ i m,C.M1 i=some m∧0<m.cap∧m'.b=m.b)∨C.w1.heap.size≤m'.b
theorem Ev.refl {C:Cx}:Ev C C.w1 C.A1 C.M1 :=
 ⟨Nat.le_refl _,fun _ _ _=>rfl,fun _ _ h=>h,fun _ _ h _=>h,fun _ m _ h=>⟨m,h,.inl rfl⟩,fun i m h h0=>.inl ⟨i,m,h,h0,rfl⟩⟩
theorem Ev.step {C:Cx} {w w':World} {A A':Nat→Prop} {M M':Id→Option MB} (h:Ev C w A M) (hm:Mv w A M w' A' M'):Ev C w' A' M':=by
 have out:∀ b,b<C.w1.heap.size→(∀ id m,C.M1 id=some m→0<m.cap→m.b≠b)→∀ id m,M id=some m→0<m.cap→m.b≠b:=fun b hb hno id m hi h0 e=>by
  rcases h.src id m hi h0 with ⟨i,m1,h1,h2,h3⟩|h1
  · exact hno i m1 h1 h2 (by rw [←h3,e])
  · omega
 refine ⟨Nat.le_trans h.size hm.size,fun b hb hor=>?_,fun b hb hA=>h.less b hb (hm.less b (Nat.lt_of_lt_of_le hb h.size) hA),fun b hb hA hno=>hm.more b (Nat.lt_of_lt_of_le hb h.size) (h.more b hb hA hno) (out b hb hno),fun id m hi h1=>?_,fun id m' hi h0=>?_⟩
 · rw [←h.keep b hb hor]
   have hb':=Nat.lt_of_lt_of_le hb h.size
   rcases hor with hor|hor
   · exact hm.keep b hb' fun hA=>hor (h.less b hb hA)
   · exact hm.touch.1 b hb' (out b hb hor)
 · obtain ⟨m1,h2,h3⟩:=h.ids id m hi h1
   obtain ⟨m2,h4,h5⟩:=hm.ext id m1 h2
   refine ⟨m2,h4,?_⟩
   rcases h3 with rfl|h3<;>rcases h5 with rfl|h5
   · exact .inl rfl
   · exact .inr h5
   · exact .inr h3
   · exact .inr (Nat.lt_trans h3 h5)
 · rcases hm.touch.2 id m' hi h0 with ⟨i,m1,h1,h2,h3⟩|h1
   · rcases h.src i m1 h1 h2 with ⟨i2,m2,g1,g2,g3⟩|g1
     · exact .inl ⟨i2,m2,g1,g2,by rw [h3,g3]⟩
     · exact .inr (by rw [h3];exact g1)
   · exact .inr (Nat.le_trans h.size h1)
def St.eval (s:St):Operand→AV
 | .tmp t=>s.tmps.getD t .top
 | .const v=>avOf v
 | .global g=>.gptr g
 | .func f=>.func f []
def putT (ts:List AV) (d:Option Tmp) (v:AV):List AV :=
 match d with
 | some d=>ts.set d v
 | none=>ts
def frzIf (ids:List Nat) (i:Nat) (bx:Box):Box:=if ids.contains i=true then { bx with frz:=true } else bx
def freeze (H:List Box) (ids:List Nat):List Box:=if ids.isEmpty=true then H else H.mapIdx (frzIf ids)
def Enters (P:Program) (f:FuncId):Prop:=∃ fn,P.funcs[f]?=some fn∧fn.body.isNone=false∧(fn.name == "runtime.NumGoroutine")=false
def Good (P:Program) (Inv:IV) (f:FuncId) (args:List AV) (r:AV):Prop :=
 Enters P f∧∀ (w:World) (A:Nat→Prop) (vs:List Value),Inv w→(∀ b,A b→b<w.heap.size)→RC w A noBox vs args →
  Calls P f vs.toArray w fun e w'=>∃ v,e=.returned v∧Below w.heap.size w w'∧Rel w' A noBox v r
def GoodM (P:Program) (Inv:IV) (f:FuncId) (args:List AV) (H:List Box) (r:AV) (H':List Box):Prop :=
 Enters P f∧∀ (w0 w:World) (A:Nat→Prop) (M:Id→Option MB) (vs:List Value),Inv w0→Below w0.heap.size w0 w→HR w A M w0.heap.size H→RC w A M vs args →
  Calls P f vs.toArray w fun e w'=>∃ v A' M',e=.returned v∧Below w0.heap.size w0 w'∧(∀ b,b<w0.heap.size→(A' b↔A b))∧Ev ⟨A,w,A,M,H.length⟩ w' A' M'∧HR w' A' M' w0.heap.size H'∧Rel w' A' M' v r
structure InvOk (Inv:IV):Prop where
 below:∀ w w',Inv w→Below w.heap.size w w'→Inv w'
def callTarget (s:St) (c:Call):Option (FuncId×List AV) :=
 match c.callee with
 | .value f=>match s.eval f with
  | .func g caps=>some (g,c.args.toList.map s.eval++caps)
  | _=>none
 | _=>none
def rfuel:Nat:=5
def afterCall (H:List Box) (args:List AV) (r:AV):List Box:=if r.flat=true then H else freeze H (args.flatMap (reach H rfuel))
def fopX (P:Program) (ρ:Operand→AV) (H:List Box) (nid:Nat) (op:Op) (r:AV×Option Box):Prop:=fop P ρ H nid op=some r∨fopE P ρ H nid op=some r
def OpF (P:Program) (Inv:IV) (s:St) (o:Oper) (s':St):Prop :=
 (∃ x nb,fopX P s.eval s.heap s.heap.length o.op (x,nb)∧s'=⟨putT s.tmps o.dst x,s.heap++nb.toList⟩) ∨
 (∃ c g args args' r,o.op=.call c∧callTarget s c=some (g,args)∧mapO (resolve s.heap rfuel) args=some args'∧Good P Inv g args' r ∧
  s'=⟨putT s.tmps o.dst r,afterCall s.heap args r⟩)
def renI (f:Nat→Nat→Option (Nat×Nat)):Id→Nat→Option (Id×Nat)
 | .b n,ver=>match f n ver with
  | some (k,v)=>some (.b k,v)
  | none=>none
 | .r g i j,ver=>match f g 0 with
  | some (k,_)=>some (.r k i j,ver)
  | none=>none
mutual
def ren (f:Nat→Nat→Option (Nat×Nat)):AV→AV
 | .agg cs=>.agg (rens f cs)
 | .own id ver i j=>match renI f id ver with
  | some (k,v)=>.own k v i j
  | none=>.top
 | .osl id ver off len=>match renI f id ver with
  | some (k,v)=>.osl k v off len
  | none=>.top
 | .func g cs=>.func g (rens f cs)
 | .tuple vs=>.tuple (rens f vs)
 | .list sz xs=>.list sz xs
 | .eptr sz xs i j=>.eptr sz xs i j
 | .top=>.top
 | .bool b=>.bool b
 | .int k n=>.int k n
 | .str s=>.str s
 | .nils=>.nils
 | .nilptr=>.nilptr
 | .nilfn=>.nilfn
 | .empt=>.empt
 | .gptr g=>.gptr g
def rens (f:Nat→Nat→Option (Nat×Nat)):List AV→List AV
 | []=>[]
 | x::xs=>ren f x::rens f xs
end
mutual
def renOk (f:Nat→Nat→Option (Nat×Nat)):AV→Bool
 | .agg cs=>rensOk f cs
 | .own id ver _ _=>(renI f id ver).isSome
 | .osl id ver _ _=>(renI f id ver).isSome
 | .func _ cs=>rensOk f cs
 | .tuple vs=>rensOk f vs
 | .list _ _=>true
 | .eptr _ _ _ _=>true
 | .top=>true
 | .bool _=>true
 | .int _ _=>true
 | .str _=>true
 | .nils=>true
 | .nilptr=>true
 | .nilfn=>true
 | .empt=>true
 | .gptr _=>true
def rensOk (f:Nat→Nat→Option (Nat×Nat)):List AV→Bool
 | []=>true
 | x::xs=>renOk f x&&rensOk f xs
end
def posOf:List Nat→Nat→Option Nat
 | [],_=>none
 | a::l,x=>match Nat.beq a x with
  | true=>some 0
  | false=>match posOf l x with
   | some j=>some (j+1)
   | none=>none
def nodupB:List Nat→Bool
 | []=>true
 | a::l=>match posOf l a with
  | some _=>false
  | none=>nodupB l
def renBox (f:Nat→Nat→Option (Nat×Nat)) (ver:Nat) (bx:Box):Box:=match bx.pm with
 | true=>⟨ver,bx.sz,bx.ty,bx.xs,bx.frz,true⟩
 | false=>⟨ver,bx.sz,bx.ty,rens f bx.xs,bx.frz,false⟩
def renBoxOk (f:Nat→Nat→Option (Nat×Nat)) (bx:Box):Bool:=match bx.pm with
 | true=>true
 | false=>rensOk f bx.xs
def inF (ids:List Nat) (id ver:Nat):Option (Nat×Nat):=match posOf ids id with
 | some j=>some (j,ver)
 | none=>none
def outF (ids:List Nat) (n k:Nat) (j ver:Nat):Option (Nat×Nat):=match ids[j]? with
 | some id=>some (id,ver)
 | none=>some (n+(j - k),ver)
def subBoxes (f:Nat→Nat→Option (Nat×Nat)) (H:List Box):List Nat→Option (List Box)
 | []=>some []
 | id::ids=>match H[id]? with
  | some bx=>match renBoxOk f bx with
   | true=>match subBoxes f H ids with
    | some bs=>some (renBox f bx.ver bx::bs)
    | none=>none
   | false=>none
  | none=>none
def setAllB (H:List Box):List Nat→List Box→List Box
 | id::ids,b::bs=>setAllB (H.set id b) ids bs
 | _,_=>H
def backBoxes (f:Nat→Nat→Option (Nat×Nat)):List Box→List Box
 | []=>[]
 | bx::bs=>renBox f bx.ver bx::backBoxes f bs
def outHeap (H:List Box) (ids:List Nat) (H0':List Box):List Box :=
 setAllB H ids (backBoxes (outF ids H.length ids.length) H0')++(backBoxes (outF ids H.length ids.length) H0').drop ids.length
def Settled (s s1:St):Prop :=
 ∃ ids,s1.heap=freeze s.heap ids∧s1.tmps.length=s.tmps.length ∧
  ∀ t,s1.tmps.getD t .top=s.tmps.getD t .top∨(resolve s.heap rfuel (s.tmps.getD t .top)=some (s1.tmps.getD t .top)∧∀ id,id∈reach s.heap rfuel (s.tmps.getD t .top)→id∈ids)
def OpI0 (P:Program) (Inv:IV) (s:St) (o:Oper) (s':St):Prop :=
 (∃ x H',iop P s.eval s.heap o.op=some (x,H')∧s'=⟨putT s.tmps o.dst x,H'⟩) ∨
 (∃ c g args ids H0 r0 H0',o.op=.call c∧callTarget s c=some (g,args)∧nodupB ids=true∧subBoxes (inF ids) s.heap ids=some H0∧GoodM P Inv g (rens (inF ids) args) H0 r0 H0' ∧
  s'=⟨putT s.tmps o.dst (ren (outF ids s.heap.length ids.length) r0),outHeap s.heap ids H0'⟩) ∨
 (∃ s1 x nb,Settled s s1∧fop P s1.eval s1.heap s1.heap.length o.op=some (x,nb)∧s'=⟨putT s.tmps o.dst x,s1.heap++nb.toList⟩)
def Unm (s s1:St):Prop:=∃ (n:Nat) (bx:Box),s.heap[n]?=some bx∧isC bx.ty=true∧isMapT bx.ty=false∧rowsOk bx bx.xs=true∧s1=⟨s.tmps,s.heap.set n ⟨bx.ver,bx.sz,rty bx.ty,bx.xs,bx.frz,true⟩⟩
def OpI (P:Program) (Inv:IV) (s:St) (o:Oper) (s':St):Prop:=OpI0 P Inv s o s'∨(∃ s1,Unm s s1∧OpI0 P Inv s1 o s') ∨
 ∃ s1 x H',Settled s s1∧iop P s1.eval s1.heap o.op=some (x,H')∧s'=⟨putT s.tmps o.dst x,H'⟩
theorem xgo {P:Program} {w:World} {A:Nat→Prop} {M:Id→Option MB} {B:Nat} {H:List Box} {nid:Nat} {ρ:Operand→AV} {ρc:Operand→Value} {o:Oper} {x:AV} {nb:Option Box} (hf:fopX P ρ H nid o.op (x,nb)) (hρ:∀ a,a∈o.op.operands.toList→Rel w A M (ρc a) (ρ a))
  (hR:HR w A M B H) (hB:B≤w.heap.size) (hn:Free M nid) (hH:∀ bx,nb=some bx→∃ f,H[nid]?=some { bx with frz:=f }):Gives P o ρc w A M B H nid x:=by
 rcases hf with hf|hf
 · exact xhp hf hρ hR hB hn hH
 · exact xjE hf hρ hR hB hn hH
def HSub (h H:List Box):Prop:=∀ (id:Nat) (bx:Box),h[id]?=some bx→∃ f,H[id]?=some { bx with frz:=f }∧(bx.frz=true→f=true)
theorem HSub.refl (h:List Box):HSub h h:=fun id bx hb=>⟨bx.frz,hb,fun e=>e⟩
theorem HSub.trans {a b c:List Box} (h:HSub a b) (h':HSub b c):HSub a c:=fun id bx hb=>by
 obtain ⟨f,h1,h2⟩:=h id bx hb
 obtain ⟨f',h3,h4⟩:=h' id _ h1
 exact ⟨f',h3,fun e=>h4 (h2 e)⟩
theorem HSub.append (h:List Box) (l:List Box):HSub h (h++l):=fun id bx hb=>by
 have:id<h.length:=by
  rcases Nat.lt_or_ge id h.length with h'|h'
  · exact h'
  · rw [List.getElem?_eq_none h'] at hb;simp at hb
 exact ⟨bx.frz,by rw [List.getElem?_append_left this];exact hb,fun e=>e⟩
theorem xc8 (H:List Box) (ids:List Nat) (id:Nat):(freeze H ids)[id]?=(H[id]?).map (frzIf ids id):=by
 unfold freeze
 split
 · rename_i he
   have:ids=[]:=by simpa using he
   subst this
   cases H[id]?<;>simp [frzIf]
 · simp [List.getElem?_mapIdx]
theorem HSub.freeze (H:List Box) (ids:List Nat):HSub H (freeze H ids):=fun id bx hb=>by
 rw [xc8,hb]
 unfold frzIf
 by_cases hc:ids.contains id=true
 · exact ⟨true,by simp only [Option.map_some,hc,if_true],fun _=>rfl⟩
 · exact ⟨bx.frz,by simp only [Option.map_some,hc,if_false];rfl,fun e=>e⟩
theorem xhU (H:List Box) (ids:List Nat):(freeze H ids).length=H.length:=by
 unfold freeze;split<;>simp
theorem xeD (bx:Box) (f:Bool) (x:AV):rowBox { bx with frz:=f } x={ rowBox bx x with frz:=f }:=by cases x<;>rfl
theorem HSub.getB {h H:List Box} (hs:HSub h H) {id:Id} {bx:Box} (hb:getB h id=some bx):∃ f,Sim.getB H id=some { bx with frz:=f }∧(bx.frz=true→f=true):=by
 cases id with
 | b n=>exact hs n bx hb
 | r n i j =>
  obtain ⟨bx0,h1,h2⟩:=xdm hb
  obtain ⟨f,g1,g2⟩:=hs n bx0 h1
  rcases h2 with ⟨hc,rfl⟩|⟨hc,h2,h3,h4,rfl⟩
  · exact ⟨true,xbG (bx:={ bx0 with frz:=f }) g1 hc,fun _=>rfl⟩
  · refine ⟨f,?_,fun e=>g2 (by rw [xgP] at e;exact e)⟩
    rw [xbw (bx:={ bx0 with frz:=f }) g1 hc h2 h3 h4,←xeD]
theorem xfB (H:List Box) (ids:List Nat) (id:Id):getB (freeze H ids) id=(getB H id).map (frzIf ids id.base):=by
 cases id with
 | b n=>exact xc8 H ids n
 | r n i j =>
  simp only [getB,xc8,Id.base]
  cases hf:H[n]? with
  | none=>rfl
  | some fm =>
   simp only [Option.map_some]
   unfold frzIf
   by_cases hc:ids.contains n=true
   · simp only [if_pos hc]
     split
     · split
       · rw [xeD];rfl
       · rfl
     · rfl
   · simp only [if_neg hc]
     split
     · split<;>rfl
     · rfl
theorem HSub.box {h H:List Box} (hs:HSub h H) {id:Id} {ver:Nat} {bx:Box} (hb:getBox h id ver=some bx):∃ f,getBox H id ver=some { bx with frz:=f }:=by
 obtain ⟨h1,h2⟩:=xaf hb
 obtain ⟨f,h3,_⟩:=hs.getB h1
 exact ⟨f,by simp [getBox,h3,h2,xaA hb]⟩
section mono
variable {P : Program} {h H : List Box} (hs : HSub h H)
include hs
theorem xgX {ti:TI} {x r:AV} (hr:absLoadAt h ti x=some r):absLoadAt H ti x=some r:=by
 cases x<;>first|exact hr|skip
 rename_i id ver i j
 simp only [absLoadAt] at hr ⊢
 cases hb:getBox h id ver with
 | none=>simp [hb] at hr
 | some bx =>
  obtain ⟨f,hf⟩:=hs.box hb
  simp only [hb] at hr
  try simp only [hf]
  exact hr
theorem xhT {t:TypeId} {x r:AV} {lo hi:Option AV} (hr:absSlice P h t x lo hi=some r):absSlice P H t x lo hi=some r:=by
 unfold absSlice at hr ⊢
 split at hr
 case h_2=>simp at hr
 rename_i ti hti
 split at hr
 · rename_i s hd;(try simp only [hti,hd]);exact hr
 · rename_i e sz xs hd;(try simp only [hti,hd]);exact hr
 · rename_i e hd;(try simp only [hti,hd]);exact hr
 · rename_i e id ver off len hd
   try simp only [hti,hd]
   cases hb:getBox h id ver with
   | none=>simp [hb] at hr
   | some bx =>
    obtain ⟨f,hf⟩:=hs.box hb
    simp only [hb] at hr
    simp only [hf]
    cases hte:tinfo P e<;>simp only [hte] at hr ⊢<;>exact hr
 · simp at hr
theorem xfn {t:TypeId} {x ix r:AV} (hr:absIndexAddr P h t x ix=some r):absIndexAddr P H t x ix=some r:=by
 unfold absIndexAddr at hr ⊢
 split at hr
 case h_2=>simp at hr
 rename_i ti k n hti
 split at hr
 · rename_i e sz xs hd;(try simp only [hti,hd]);exact hr
 · rename_i e id ver off len hd
   try simp only [hti,hd]
   cases hb:getBox h id ver with
   | none=>simp [hb] at hr
   | some bx =>
    obtain ⟨f,hf⟩:=hs.box hb
    simp only [hb] at hr
    simp only [hf]
    cases hte:tinfo P e<;>simp only [hte] at hr ⊢<;>exact hr
 · rename_i m e id ver i j hd
   try simp only [hti,hd]
   cases hb:getBox h id ver with
   | none=>simp [hb] at hr
   | some bx =>
    obtain ⟨f,hf⟩:=hs.box hb
    simp only [hb] at hr
    simp only [hf]
    cases hte:tinfo P e<;>simp only [hte] at hr ⊢<;>exact hr
 · rename_i m e sz xs i j hd;(try simp only [hti,hd]);exact hr
 · simp at hr
theorem xfm {t:TypeId} {x r:AV} {f:Nat} (hr:absFieldAddr P h t x f=some r):absFieldAddr P H t x f=some r:=by
 unfold absFieldAddr at hr ⊢
 split at hr
 case h_2=>simp at hr
 rename_i ti hti
 split at hr
 case h_2=>simp at hr
 rename_i fs hd
 split at hr
 case h_2=>simp at hr
 rename_i fd hfd
 split at hr
 case h_2=>simp at hr
 rename_i tf htf
 split at hr
 · simp at hr
 rename_i hsz
 try simp only [hti,hd,hfd,htf,hsz,if_false]
 split at hr
 · exact hr
 · rename_i id ver i j
   cases hb:getBox h id ver with
   | none=>simp [hb] at hr
   | some bx =>
    obtain ⟨f',hf⟩:=hs.box hb
    simp only [hb] at hr
    try simp only [hf]
    exact hr
 · simp at hr
theorem xiE {t:TypeId} {x r:AV} (hr:absLen P h t x=some r):absLen P H t x=some r:=by
 unfold absLen at hr ⊢
 split at hr
 case h_2=>simp at hr
 rename_i ti hti
 split at hr
 · rename_i s hd;(try simp only [hti,hd]);exact hr
 · rename_i e sz xs hd;(try simp only [hti,hd]);exact hr
 · rename_i e hd;(try simp only [hti,hd]);exact hr
 · rename_i e id ver off len hd
   try simp only [hti,hd]
   cases hb:getBox h id ver with
   | none=>simp [hb] at hr
   | some bx =>
    obtain ⟨f,hf⟩:=hs.box hb
    simp only [hb] at hr
    try simp only [hf]
    exact hr
 · simp at hr
theorem xls {ρ:Operand→AV} {nid:Nat} {op:Op} {r:AV×Option Box} (hr:fop P ρ h nid op=some r):fop P ρ H nid op=some r:=by
 unfold fop at hr ⊢
 cases op<;>try exact hr
 case load t a =>
  simp only at hr ⊢
  split at hr
  case h_2=>simp at hr
  rename_i ti hti
  split at hr
  case h_2=>simp at hr
  rename_i x hx
  (try simp only [hti,xgX hs hx]);exact hr
 case nilCheck x =>
  simp only at hr ⊢
  split at hr
  · rename_i hx;(try simp only [hx]);exact hr
  · rename_i id ver i j hx
    try simp only [hx]
    cases hb:getBox h id ver with
    | none=>simp [hb] at hr
    | some bx =>
     obtain ⟨f,hf⟩:=hs.box hb
     simp only [hb] at hr
     try simp only [hf]
     exact hr
  · rename_i hx;(try simp only [hx]);exact hr
  · simp at hr
 case slice t x lo hi mx =>
  simp only at hr ⊢
  split at hr
  case h_2=>simp at hr
  split at hr
  case h_2=>simp at hr
  rename_i y hy
  (try simp only [xhT hs hy]);exact hr
 case fieldAddr t x f =>
  simp only at hr ⊢
  split at hr
  case h_2=>simp at hr
  rename_i y hy
  (try simp only [xfm hs hy]);exact hr
 case indexAddr t x ix =>
  simp only at hr ⊢
  split at hr
  case h_2=>simp at hr
  rename_i y hy
  (try simp only [xfn hs hy]);exact hr
 case call c =>
  simp only at hr ⊢
  split at hr
  case h_2=>simp at hr
  rename_i b hb
  split at hr
  · rename_i t ts x hts hxs
    try simp only [hb,hts,hxs]
    split at hr
    case h_2=>simp at hr
    rename_i y hy
    (try simp only [xiE hs hy]);exact hr
  · rename_i x xs hxs;(try simp only [hb,hxs]);exact hr
  · rename_i x xs hxs;(try simp only [hb,hxs]);exact hr
  · simp at hr
theorem xhS {sz:Nat} {x:AV} {r:List AV×Bool} (hr:absElems h sz x=some r):absElems H sz x=some r:=by
 unfold absElems at hr ⊢
 split at hr
 · exact hr
 · exact hr
 · rename_i id ver off len
   cases hb:getBox h id ver with
   | none=>simp [hb] at hr
   | some bx =>
    obtain ⟨f,hf⟩:=hs.box hb
    simp only [hb] at hr
    simp only [hf]
    exact hr
 · simp at hr
theorem xkR {ρ:Operand→AV} {nid:Nat} {op:Op} {r:AV×Option Box} (hr:fopE P ρ h nid op=some r):fopE P ρ H nid op=some r:=by
 unfold fopE at hr ⊢
 split at hr
 · exact hr
 · rename_i c
   split at hr
   · rename_i b hb
     (try simp only [hb])
     split at hr
     · rename_i t t' s x h1 h2
       (try simp only [h1,h2])
       unfold absAppE at hr ⊢
       split at hr
       case h_2=>simp at hr
       rename_i hse
       (try simp only [hse])
       split at hr
       case h_2=>simp at hr
       rename_i ti hti
       (try simp only [hti])
       split at hr
       case h_2=>simp at hr
       rename_i e hd
       (try simp only [hd])
       split at hr
       case h_2=>simp at hr
       rename_i te hte
       (try simp only [hte])
       split at hr
       case h_2=>simp at hr
       rename_i ys pm hys
       have hys':absSrc P H t t' e te.sz (ρ x)=some (ys,pm):=by
        unfold absSrc at hys ⊢
        split at hys
        · rename_i htt;rw [if_pos htt];exact xhS hs hys
        · rename_i htt;rw [if_neg htt];exact hys
       (try simp only [hys'])
       exact hr
     · simp at hr
   · simp at hr
 · exact hr
 · simp at hr
theorem xkS {ρ:Operand→AV} {nid:Nat} {op:Op} {r:AV×Option Box} (hr:fopX P ρ h nid op r):fopX P ρ H nid op r:=hr.imp (xls hs) (xkR hs)
end mono
theorem xlx {P:Program} {ρ:Operand→AV} {H:List Box} {n n':Nat} {op:Op} {x:AV} (h:fop P ρ H n op=some (x,none)):fop P ρ H n' op=some (x,none):=by
 unfold fop at h ⊢
 cases op<;>try exact h
 case alloc e =>
  simp only at h
  split at h
  · split at h<;>simp at h
  · simp at h
 case box e a =>
  simp only at h
  split at h<;>simp at h
 case buildSlice t len parts =>
  simp only at h
  split at h
  · split at h
    · split at h
      · split at h
        · split at h<;>simp at h
        · simp at h
      · simp at h
    · simp at h
  · simp at h
 case makeSlice t l c =>
  simp only [absMake] at h
  split at h
  · split at h
    · split at h
      · split at h<;>simp at h
      · simp at h
    · simp at h
  · simp at h
theorem xdG {r r':AV→Option AV}:∀ {xs ys:List AV},(∀ x y,x∈xs→r x=some y→r' x=some y)→mapO r xs=some ys→mapO r' xs=some ys
 | [],ys,_,h=>h
 | x::xs,ys,hr,h=>by
  unfold mapO at h ⊢
  split at h
  · rename_i y zs h1 h2
    simp only [hr x y (by simp) h1,xdG (fun a b ha hb=>hr a b (by simp [ha]) hb) h2]
    exact h
  · simp at h
theorem xbO {h H:List Box} (hs:HSub h H):∀ (n:Nat) (x y:AV),resolve h n x=some y→resolve H n x=some y∧reach H n x=reach h n x
 | 0,x,y,hr=>⟨hr,rfl⟩
 | n+1,x,y,hr=>by
  have listm:∀ cs ds,mapO (resolve h n) cs=some ds→mapO (resolve H n) cs=some ds∧cs.flatMap (reach H n)=cs.flatMap (reach h n):=by
   intro cs ds hc
   refine ⟨xdG (fun a b _ hab=>(xbO hs n a b hab).1) hc,?_⟩
   obtain ⟨e1,e2⟩:=xa2 hc
   simp only [List.flatMap]
   congr 1
   apply List.map_congr_left
   intro a ha
   obtain ⟨i,hi,rfl⟩:=xcr ha
   exact (xbO hs n _ _ (e2 i hi)).2
  have mape:∀ pm cs ds,mapE pm (resolve h n) cs=some ds→mapE pm (resolve H n) cs=some ds:=by
   intro pm cs ds hc
   unfold mapE at hc ⊢
   split
   · rename_i hp;rw [if_pos hp] at hc;exact hc
   · rename_i hp
     rw [if_neg hp] at hc
     refine xdG (fun a b _ hab=>?_) hc
     unfold resE at hab ⊢
     split at hab
     · split at hab
       case h_2=>simp at hab
       rename_i zs hzs
       simp only [(listm _ _ hzs).1];exact hab
     · exact (xbO hs n _ _ hab).1
  have mapr:∀ pm cs ds,mapE pm (resolve h n) cs=some ds→¬ pm=true→(cs.flatMap fun (e:AV)=>e.cells.flatMap (reach H n))=cs.flatMap fun (e:AV)=>e.cells.flatMap (reach h n):=by
   intro pm cs ds hc hp
   unfold mapE at hc
   rw [if_neg hp] at hc
   obtain ⟨e1,e2⟩:=xa2 hc
   simp only [List.flatMap]
   congr 1
   apply List.map_congr_left
   intro a ha
   obtain ⟨i,hi,rfl⟩:=xcr ha
   have h2:=e2 i hi
   unfold resE at h2
   split at h2
   · rename_i cs' hcs'
     split at h2
     case h_2=>simp at h2
     rename_i zs hzs
     have:=(listm _ _ hzs).2
     rw [hcs']
     simp only [xb2]
     simpa [List.flatMap] using this
   · rename_i hne
     have hcell:(cs.getD i .top).cells=[cs.getD i .top]:=by
      generalize cs.getD i .top=q at hne
      cases q<;>first|rfl|exact absurd rfl (hne _)
     rw [hcell]
     have:=(xbO hs n _ _ h2).2
     simpa using this
  unfold resolve at hr ⊢
  unfold reach
  split at hr
  · rename_i hp;simp only [hp,if_true];exact ⟨hr,trivial⟩
  rename_i hp
  simp only [hp,if_false]
  split at hr
  · rename_i cs
    split at hr
    case h_2=>simp at hr
    rename_i ds hds
    obtain ⟨a1,a2⟩:=listm _ _ hds
    simp only [a1];exact ⟨hr,a2⟩
  · rename_i f cs
    split at hr
    case h_2=>simp at hr
    rename_i ds hds
    obtain ⟨a1,a2⟩:=listm _ _ hds
    simp only [a1];exact ⟨hr,a2⟩
  · rename_i id ver i j
    split at hr
    case h_2=>simp at hr
    rename_i bx hbx
    split at hr
    case h_2=>simp at hr
    rename_i ys hys
    obtain ⟨f,hf⟩:=hs.box hbx
    have hb1:=(xaf hbx).1
    have hf1:=(xaf hf).1
    simp only [hf,mape _ _ _ hys,hb1,hf1]
    refine ⟨hr,?_⟩
    by_cases hpp:bx.pm=true
    · simp [hpp]
    · simp only [hpp,if_false];rw [mapr _ _ _ hys hpp]
  · rename_i id ver off len
    split at hr
    case h_2=>simp at hr
    rename_i bx hbx
    split at hr
    case h_2=>simp at hr
    rename_i ys hys
    obtain ⟨f,hf⟩:=hs.box hbx
    have hb1:=(xaf hbx).1
    have hf1:=(xaf hf).1
    simp only [hf,mape _ _ _ hys,hb1,hf1]
    refine ⟨hr,?_⟩
    by_cases hpp:bx.pm=true
    · simp [hpp]
    · simp only [hpp,if_false];rw [mapr _ _ _ hys hpp]
  · simp at hr
end Go.Sim
namespace Go.Sim
open Go.RowKit
theorem xf2 {h:List Box}:∀ (n:Nat) (x y:AV) (id:Nat),resolve h n x=some y→id∈reach h n x→id<h.length
 | 0,x,y,id,_,hid=>by simp [reach] at hid
 | n+1,x,y,id,hr,hid=>by
  have listm:∀ cs ds,mapO (resolve h n) cs=some ds→id∈cs.flatMap (reach h n)→id<h.length:=by
   intro cs ds hc hm
   obtain ⟨e1,e2⟩:=xa2 hc
   obtain ⟨a,ha,hi⟩:=List.mem_flatMap.1 hm
   obtain ⟨i,hi',rfl⟩:=xcr ha
   exact xf2 n _ _ id (e2 i hi') hi
  have mape:∀ pm cs ds,mapE pm (resolve h n) cs=some ds→¬ pm=true→id∈(cs.flatMap fun (e:AV)=>e.cells.flatMap (reach h n))→id<h.length:=by
   intro pm cs ds hc hp hm
   unfold mapE at hc
   rw [if_neg hp] at hc
   obtain ⟨e1,e2⟩:=xa2 hc
   obtain ⟨a,ha,hi⟩:=List.mem_flatMap.1 hm
   obtain ⟨i,hi',rfl⟩:=xcr ha
   have h2:=e2 i hi'
   unfold resE at h2
   split at h2
   · rename_i cs' hcs'
     split at h2
     case h_2=>simp at h2
     rename_i zs hzs
     rw [hcs',xb2] at hi
     exact listm _ _ hzs hi
   · rename_i hne
     have hcell:(cs.getD i .top).cells=[cs.getD i .top]:=by
      generalize cs.getD i .top=q at hne
      cases q<;>first|rfl|exact absurd rfl (hne _)
     rw [hcell] at hi
     exact xf2 n _ _ id h2 (by simpa using hi)
  unfold resolve at hr
  unfold reach at hid
  split at hr
  · rename_i hp;simp [hp] at hid
  rename_i hp
  simp only [hp,if_false] at hid
  split at hr
  · split at hr
    case h_2=>simp at hr
    rename_i ds hds
    exact listm _ _ hds hid
  · split at hr
    case h_2=>simp at hr
    rename_i ds hds
    exact listm _ _ hds hid
  · rename_i id' ver i j
    split at hr
    case h_2=>simp at hr
    rename_i bx hbx
    split at hr
    case h_2=>simp at hr
    rename_i ys hys
    have hb1:=(xaf hbx).1
    simp only [hb1] at hid
    rcases List.mem_cons.1 hid with rfl|hid
    · exact xcH hb1
    · by_cases hpp:bx.pm=true
      · simp [hpp] at hid
      · simp only [hpp,if_false] at hid;exact mape _ _ _ hys hpp hid
  · rename_i id' ver off len
    split at hr
    case h_2=>simp at hr
    rename_i bx hbx
    split at hr
    case h_2=>simp at hr
    rename_i ys hys
    have hb1:=(xaf hbx).1
    simp only [hb1] at hid
    rcases List.mem_cons.1 hid with rfl|hid
    · exact xcH hb1
    · by_cases hpp:bx.pm=true
      · simp [hpp] at hid
      · simp only [hpp,if_false] at hid;exact mape _ _ _ hys hpp hid
  · simp at hr
section
variable {P : Program} {Inv : IV} {w : World} {A : Nat → Prop} {M : Id → Option MB} {B : Nat} {H : List Box}
theorem xeV {f:FuncId} (h:Enters P f) (args:Array Value) (w:World):(callFunc f args).run P w=.ok (.enter f args) w:=by
 obtain ⟨fn,h1,h2,h3⟩:=h
 simp only [callFunc,Sem.run_bind,run_program,Result.andThen_ok,h1,h2,h3,Bool.false_eq_true,if_false,Sem.run_pure]
theorem xid {o:Oper} {c:Call} {ρc:Operand→Value} {fo:Operand} {g:FuncId} {vs:Array Value} (ho:o.op=.call c) (hc:c.callee=.value fo) (hf:ρc fo=.func (.func g) #[] vs) (he:Enters P g) :
  (execOp ρc o).run P w=.ok (.enter g ((c.args.toList.map ρc++vs.toList).toArray)) w:=by
 have e:c.args.map ρc++vs=(c.args.toList.map ρc++vs.toList).toArray:=by
  apply Array.ext';simp
 simp only [execOp,ho,Go.resolve,hc,hf,Deferred.ofValue,Sem.run_bind,Sem.run_pure,Result.andThen_ok,invoke,Array.empty_append,e]
 exact xeV he _ w
def without (A:Nat→Prop) (M:Id→Option MB) (ids:List Nat):Nat→Prop:=fun b=>A b∧¬ ∃ (id:Id) (m:MB),id.base∈ids∧M id=some m∧m.b=b
theorem xgH (hR:HR w A M B H) {A':Nat→Prop} (hA:∀ b,b<w.heap.size→A' b→A b) {n:Nat} {xs ys:List AV} {vs:List Value} (h:RC w A M vs xs) (hm:mapO (resolve H n) xs=some ys)
  (hid:∀ id:Id,id.base∈xs.flatMap (reach H n)→∀ m,M id=some m→0<m.cap→¬ A' m.b):RC w A' noBox vs ys:=by
 obtain ⟨e1,e2⟩:=xa2 hm
 refine ⟨by rw [h.1,e1],fun i hi=>?_⟩
 have hi':i<xs.length:=by omega
 exact xa3 hR hA n _ _ _ (h.2 i hi') (e2 i hi') fun id hid' m hm'=>hid id (List.mem_flatMap.2 ⟨_,xad hi',hid'⟩) m hm'
theorem xkK (hR:HR w A M B H) (hI:Inv w) {g:FuncId} {args args':List AV} {r:AV} {vs:List Value} (hv:RC w A M vs args) (hm:mapO (resolve H rfuel) args=some args') (hg:Good P Inv g args' r)
  (hfz:r.flat=true∨∀ id:Id,id.base∈args.flatMap (reach H rfuel)→∀ m,M id=some m→0<m.cap→¬ A m.b) :
  Calls P g vs.toArray w fun e w'=>∃ v,e=.returned v∧Below w.heap.size w w'∧Rel w' A M v r:=by
 rcases hfz with hfl|hfz
 · have hrc:=xgH hR (A':=without A M (args.flatMap (reach H rfuel))) (fun b _ h=>h.1) hv hm (fun id hid m hm' _ h=>h.2 ⟨id,m,hid,hm',rfl⟩)
   refine (hg.2 w _ vs hI (fun b hb=>hR.lt b hb.1) hrc).mono ?_
   rintro e w' ⟨v,rfl,hb,hr⟩
   exact ⟨v,rfl,hb,hr.flat hfl⟩
 · have hrc:=xgH hR (A':=A) (fun b _ h=>h) hv hm hfz
   refine (hg.2 w _ vs hI hR.lt hrc).mono ?_
   rintro e w' ⟨v,rfl,hb,hr⟩
   exact ⟨v,rfl,hb,hr.mono (fun _ _ _=>rfl) (Nat.le_refl _) (fun _ _ h=>h) (xgy M)⟩
theorem xmu {h H:List Box} {ids:List Nat} (hsub:HSub (freeze h ids) H) {id:Id} (hlt:id.base<h.length) (hid:id.base∈ids) {bx:Box} (hb:getB H id=some bx):bx.frz=true:=by
 have key:∀ n,n<h.length→n∈ids→∀ b:Box,H[n]?=some b→b.frz=true:=fun n hn hm b hb=>by
  have h1:(freeze h ids)[n]?=some { h[n] with frz:=true }:=by
   rw [xc8,List.getElem?_eq_getElem hn]
   simp only [Option.map_some,frzIf,List.contains_iff_mem.2 hm,if_true]
  obtain ⟨f,h2,h3⟩:=hsub n _ h1
  rw [h2] at hb
  simp only [Option.some.injEq] at hb
  rw [←hb];exact h3 rfl
 cases id with
 | b n=>exact key n hlt hid bx hb
 | r n i j =>
  obtain ⟨bx0,h1,⟨_,rfl⟩|⟨_,_,_,_,rfl⟩⟩:=xdm hb
  · rfl
  · rw [xgP]
    exact key n hlt hid bx0 h1
theorem xfZ {s s':St} {o:Oper} (h:OpF P Inv s o s') (hsub:HSub s'.heap H) {a:Act} (hR:HR w A M B H) (hB:B≤w.heap.size) (hI:Inv w)
  (hρ:∀ x,x∈o.op.operands.toList→Rel w A M (a.eval x) (s.eval x)) (hn:s.heap.length<s'.heap.length→Free M s.heap.length) {K:Act→World→Prop} {Q:Exit→Act→World→Prop} :
  ∃ x,s'.tmps=putT s.tmps o.dst x∧((∀ v w' A' M',Below w.heap.size w w'→MExt M M'→(∀ b,b<w.heap.size→(A' b↔A b)) →
   (∀ id m,M' id=some m→(∃ m0,M id=some m0)∨(id=.b s.heap.length∧s.heap.length<s'.heap.length))→Touch w w' M M'→HR w' A' M' B H→Rel w' A' M' v x→K (a.put o.dst v) w')→o.wp P a w K Q):=by
 rcases h with ⟨x,nb,hf,rfl⟩|⟨c,g,args,args',r,ho,hct,hm,hg,rfl⟩
 · refine ⟨x,rfl,fun hK=>?_⟩
   have hsub0:HSub s.heap H:=(HSub.append s.heap nb.toList).trans hsub
   have hf':=xkS hsub0 hf
   cases nb with
   | none =>
    have hn':Free M H.length:=hR.free_of_length (Nat.le_refl _)
    obtain ⟨v,w',A',M',hrun,hbel,hext,hA,hM,hR',hr⟩:=xgo (o:=o) (ρc:=a.eval) (hf'.imp (xlx (n':=H.length)) (xlr (n':=H.length))) hρ hR hB hn' (by simp)
    have hMM:∀ id m,M' id=some m→∃ m0,M id=some m0:=by
     intro id m hm
     by_cases hid:id=.b H.length
     · rw [hid,hR'.none_of_length (Nat.le_refl _)] at hm;simp at hm
     · rw [hM.1 id hid] at hm;exact ⟨m,hm⟩
    have htch:Touch w w' M M':=.of_new hbel fun id m hm=>by
     by_cases hid:id=.b H.length
     · subst hid;exact hM.2 m hm
     · rw [hM.1 id hid] at hm;exact .inl hm
    have:=hK v w' A' M' hbel hext hA (fun id m hm=>.inl (hMM id m hm)) htch hR' hr
    unfold Oper.wp
    rw [hrun]
    exact this
   | some bx =>
    have hlen:s.heap.length<(s.heap++[bx]).length:=by simp
    have hn':Free M s.heap.length:=hn (by simp)
    obtain ⟨f,hfb,_⟩:=hsub s.heap.length bx (by simp)
    obtain ⟨v,w',A',M',hrun,hbel,hext,hA,hM,hR',hr⟩:=xgo (o:=o) (ρc:=a.eval) hf' hρ hR hB hn' (fun bx' hbx'=>by simp only [Option.some.injEq] at hbx';subst hbx';exact ⟨f,hfb⟩)
    have:=hK v w' A' M' hbel hext hA (fun id m hm=>by
     by_cases hid:id=.b s.heap.length
     · exact .inr ⟨hid,by simp⟩
     · rw [hM.1 id hid] at hm;exact .inl ⟨m,hm⟩) (.of_new hbel fun id m hm=>by
     by_cases hid:id=.b s.heap.length
     · subst hid;exact hM.2 m hm
     · rw [hM.1 id hid] at hm;exact .inl hm) hR' hr
    unfold Oper.wp
    rw [hrun]
    exact this
 · refine ⟨r,rfl,fun hK=>?_⟩
   unfold callTarget at hct
   split at hct
   case h_2=>simp at hct
   rename_i fo hcal
   split at hct
   case h_2=>simp at hct
   rename_i g' caps hfo
   simp only [Option.some.injEq,Prod.mk.injEq] at hct
   obtain ⟨rfl,rfl⟩:=hct
   have hopf:o.op.operands.toList=fo::c.args.toList:=by simp [ho,Op.operands,Call.operands,hcal]
   have hfr:=hρ fo (by rw [hopf];simp)
   rw [hfo] at hfr
   obtain ⟨cv,hcv,hcs,hcr⟩:=hfr.func_inv
   have hma:=xfj (w:=w) (A:=A) (M:=M) (l:=c.args.toList) (ρc:=a.eval) (ρ:=s.eval) (fun x hx=>hρ x (by rw [hopf];simp [hx]))
   have hrc:RC w A M (c.args.toList.map a.eval++cv.toList) (c.args.toList.map s.eval++caps):=RC.append ⟨hma.1,hma.2⟩ ⟨by simpa using hcs,fun i hi=>by have:=hcr i hi;simpa [List.getD_eq_getElem?_getD,Array.getD_eq_getD_getElem?] using this⟩
   have hsub0:HSub s.heap H:=by
    unfold afterCall at hsub
    split at hsub
    · exact hsub
    · exact (HSub.freeze s.heap _).trans hsub
   obtain ⟨e1,e2⟩:=xa2 hm
   have hm':mapO (resolve H rfuel) (c.args.toList.map s.eval++caps)=some args':=xdG (fun x y _ hxy=>(xbO hsub0 rfuel x y hxy).1) hm
   have hreach:(c.args.toList.map s.eval++caps).flatMap (reach H rfuel)=(c.args.toList.map s.eval++caps).flatMap (reach s.heap rfuel):=by
    simp only [List.flatMap]
    congr 1
    apply List.map_congr_left
    intro x hx
    obtain ⟨i,hi,rfl⟩:=xcr hx
    exact (xbO hsub0 rfuel _ _ (e2 i hi)).2
   have hfz:r.flat=true∨∀ id:Id,id.base∈(c.args.toList.map s.eval++caps).flatMap (reach H rfuel)→∀ m,M id=some m→0<m.cap→¬ A m.b:=by
    by_cases hfl:r.flat=true
    · exact .inl hfl
    · refine .inr fun id hid m hmm hcap0 hAm=>?_
      rw [hreach] at hid
      unfold afterCall at hsub
      rw [if_neg hfl] at hsub
      obtain ⟨x,hx,hxi⟩:=List.mem_flatMap.1 hid
      obtain ⟨i,hi,rfl⟩:=xcr hx
      have hlt:=xf2 rfuel _ _ id.base (e2 i hi) hxi
      obtain ⟨bx2,hb2,hbat⟩:=hR.box id m hmm
      have hft:bx2.frz=true:=xmu hsub hlt hid hb2
      have:=(hbat.guard hcap0).2 hAm
      rw [hft] at this
      simp at this
   have hcall:=xkK (P:=P) hR hI hrc hm' hg hfz
   unfold Oper.wp
   rw [xid ho hcal hcv hg.1,Oper.upon_enter]
   refine hcall.mono ?_
   rintro e w' ⟨v,rfl,hb,hr⟩
   exact hK v w' A M hb (MExt.refl M) (fun _ _=>Iff.rfl) (fun id m hm=>.inl ⟨m,hm⟩) (.of_new hb fun _ _ h=>.inl h) (hR.grow hb) hr
theorem HR.refreeze {h:List Box} (hR:HR w A M B h) (hsub:HSub h H) :
  ∃ A',HR w A' M B H∧(∀ b,A' b→A b)∧(∀ b,b<B→A b→A' b)∧(∀ b,A b→(∀ id m,M id=some m→0<m.cap→m.b≠b)→A' b):=by
 refine ⟨fun b=>A b∧¬ ∃ id m bx,M id=some m∧0<m.cap∧m.b=b∧getB H id=some bx∧bx.frz=true,⟨?_,hR.inj,fun b hb=>hR.lt b hb.1⟩,fun b hb=>hb.1,fun b hb hA=>⟨hA,?_⟩,fun b hA hno=>⟨hA,?_⟩⟩
 · intro id m hm
   obtain ⟨bx,h1,h2⟩:=hR.box id m hm
   obtain ⟨f,h3,h4⟩:=hsub.getB h1
   refine ⟨_,h3,h2.ver,h2.sz,h2.ty,h2.capm,h2.fits,h2.ok,h2.low,h2.lt,fun h0=>?_,fun h0=>?_⟩
   · obtain ⟨c,g1,g2,g3⟩:=h2.cells h0
     exact ⟨c,g1,g2,fun i j hi hj=>(g3 i j hi hj).mono (fun _ _ _=>rfl) (Nat.le_refl _) (fun _ _ h=>h.1) (MExt.refl _)⟩
   show f=false↔_
   constructor
   · intro hf
     have hbf:bx.frz=false:=by
      cases hb:bx.frz with
      | false=>rfl
      | true=>rw [h4 hb] at hf;simp at hf
     refine ⟨(h2.guard h0).1 hbf,?_⟩
     rintro ⟨id',m',bx',e1,e0,e2,e3,e4⟩
     have:id'=id:=hR.inj id' id m' m e1 hm e0 h0 e2
     subst this
     rw [h3] at e3
     simp only [Option.some.injEq] at e3
     rw [←e3] at e4
     simp [hf] at e4
   · rintro ⟨_,hno⟩
     cases hf:f with
     | false=>rfl
     | true=>exact absurd ⟨id,m,_,hm,h0,rfl,h3,hf⟩ hno
 · rintro ⟨id,m,bx,e1,e0,e2,_,_⟩
   obtain ⟨bx',_,h2⟩:=hR.box id m e1
   have:=h2.low e0
   omega
 · rintro ⟨id,m,bx,e1,e0,e2,_,_⟩
   exact hno id m e1 e0 e2
end
structure SR (w0:World) (A0:Cx) (w:World) (A:Nat→Prop) (M:Id→Option MB) (s:St) (a:Act):Prop where
 base:Below w0.heap.size w0 w
 outer:∀ b,b<w0.heap.size→(A b↔A0.av b)
 size:a.tmps.size=s.tmps.length
 tmps:∀ t,t<s.tmps.length→Rel w A M (a.tmps.getD t undef) (s.tmps.getD t .top)
 heap:HR w A M w0.heap.size s.heap
 defers:a.defers=[]
 ev:Ev A0 w A M
def SOk (w0:World) (A0:Cx) (s:St):Act→World→Prop:=fun a w=>∃ A M,SR w0 A0 w A M s a
section
variable {P : Program} {Inv : IV} {w0 w : World} {A0 : Cx} {A : Nat → Prop} {M : Id → Option MB}
theorem SR.eval {s:St} {a:Act} (h:SR w0 A0 w A M s a) (x:Operand):Rel w A M (a.eval x) (s.eval x):=by
 cases x with
 | tmp t =>
  by_cases ht:t<s.tmps.length
  · exact h.tmps t ht
  · have:s.eval (.tmp t)=.top:=by simp [St.eval,List.getD_eq_getElem?_getD,List.getElem?_eq_none (Nat.le_of_not_lt ht)]
    rw [this];exact .top _
 | const v=>exact xaG w A M v
 | global g=>exact .gptr g
 | func f=>exact .func f #[] [] rfl (by simp)
theorem xg7 {s:St} {a:Act} {A':Nat→Prop} {M':Id→Option MB} {w':World} (h1:a.tmps.size=s.tmps.length) (h2:∀ t,t<s.tmps.length→Rel w' A' M' (a.tmps.getD t undef) (s.tmps.getD t .top)) {d:Option Tmp} {v:Value} {x:AV} (hv:Rel w' A' M' v x) :
  (a.put d v).tmps.size=(putT s.tmps d x).length∧∀ t,t<(putT s.tmps d x).length→Rel w' A' M' ((a.put d v).tmps.getD t undef) ((putT s.tmps d x).getD t .top):=by
 cases d with
 | none=>exact ⟨h1,h2⟩
 | some d =>
  refine ⟨by simp [Act.put,putT,h1],fun t ht=>?_⟩
  simp only [putT,List.length_set] at ht
  have hta:t<a.tmps.size:=by omega
  simp only [Act.put,putT]
  by_cases hd:d=t
  · subst hd
    have e1:(a.tmps.setIfInBounds d v).getD d undef=v:=by simp [Array.getD_eq_getD_getElem?,hta]
    have e2:(s.tmps.set d x).getD d .top=x:=by simp [List.getD_eq_getElem?_getD,ht]
    rw [e1,e2];exact hv
  · have e1:(a.tmps.setIfInBounds d v).getD t undef=a.tmps.getD t undef:=by simp [Array.getD_eq_getD_getElem?,Array.getElem?_setIfInBounds_ne hd]
    have e2:(s.tmps.set d x).getD t .top=s.tmps.getD t .top:=by simp [List.getD_eq_getElem?_getD,List.getElem?_set_ne hd]
    rw [e1,e2];exact h2 t ht
theorem xcc (a:Act) (d:Option Tmp) (v:Value):(a.put d v).defers=a.defers:=by cases d<;>rfl
theorem SR.inv {s:St} {a:Act} (hIo:InvOk Inv) (hI:Inv w0) (h:SR w0 A0 w A M s a):Inv w:=hIo.below _ _ hI h.base
theorem SR.refreeze {s:St} {a:Act} {H:List Box} (h:SR w0 A0 w A M s a) (hsub:HSub s.heap H):∃ A',SR w0 A0 w A' M ⟨s.tmps,H⟩ a∧Mv w A M w A' M:=by
 obtain ⟨A',h1,h2,h3,h4⟩:=h.heap.refreeze hsub
 have hmv:Mv w A M w A' M:=⟨Nat.le_refl _,fun _ _ _=>rfl,fun b _ hA=>h2 b hA,fun b _ hA hno=>h4 b hA hno,MExt.refl M,.of_new (Below.refl _ _) fun _ _ h=>.inl h⟩
 exact ⟨A',⟨h.base,fun b hb=>⟨fun hA=>(h.outer b hb).1 (h2 b hA),fun hA=>h3 b hb ((h.outer b hb).2 hA)⟩,h.size,fun t ht=>hmv.rel (h.tmps t ht),h1,h.defers,h.ev.step hmv⟩,hmv⟩
theorem OpF.sub {s s':St} {o:Oper} (h:OpF P Inv s o s'):HSub s.heap s'.heap:=by
 rcases h with ⟨x,nb,_,rfl⟩|⟨c,g,args,args',r,_,_,_,_,rfl⟩
 · exact HSub.append _ _
 · unfold afterCall
   split
   · exact HSub.refl _
   · exact HSub.freeze _ _
theorem Mv.trans {w1 w2 w3:World} {A1 A2 A3:Nat→Prop} {M1 M2 M3:Id→Option MB} (h:Mv w1 A1 M1 w2 A2 M2) (g:Mv w2 A2 M2 w3 A3 M3):Mv w1 A1 M1 w3 A3 M3:=by
 have out:∀ b,b<w1.heap.size→(∀ id m,M1 id=some m→0<m.cap→m.b≠b)→∀ id m,M2 id=some m→0<m.cap→m.b≠b:=fun b hb hno id m hi h0 e=>by
  rcases h.touch.2 id m hi h0 with ⟨i,m1,h1,h2,h3⟩|h1
  · exact hno i m1 h1 h2 (by rw [←h3,e])
  · omega
 have lt:∀ b,b<w1.heap.size→b<w2.heap.size:=fun b hb=>Nat.lt_of_lt_of_le hb h.size
 refine ⟨Nat.le_trans h.size g.size,fun b hb hA=>?_,fun b hb hA=>h.less b hb (g.less b (lt b hb) hA),fun b hb hA hno=>g.more b (lt b hb) (h.more b hb hA hno) (out b hb hno),h.ext.trans g.ext,⟨fun b hb hno=>?_,fun id m' hi h0=>?_⟩⟩
 · rw [g.keep b (lt b hb) fun h'=>hA (h.less b hb h'),h.keep b hb hA]
 · rw [g.touch.1 b (lt b hb) (out b hb hno),h.touch.1 b hb hno]
 · rcases g.touch.2 id m' hi h0 with ⟨i,m1,h1,h2,h3⟩|h1
   · rcases h.touch.2 i m1 h1 h2 with ⟨i2,m2,g1,g2,g3⟩|g1
     · exact .inl ⟨i2,m2,g1,g2,by rw [h3,g3]⟩
     · exact .inr (by rw [h3];exact g1)
   · exact .inr (Nat.le_trans h.size h1)
theorem SR.put {s:St} {a:Act} (hs:SR w0 A0 w A M s a) {w':World} {A':Nat→Prop} {M':Id→Option MB} {v:Value} {x:AV} {H':List Box} {d:Option Tmp} (hbel:Below w0.heap.size w0 w') (hout:∀ b,b<w0.heap.size→(A' b↔A0.av b)) (hmv:Mv w A M w' A' M') (hR':HR w' A' M' w0.heap.size H') (hr:Rel w' A' M' v x) :
  SR w0 A0 w' A' M' ⟨putT s.tmps d x,H'⟩ (a.put d v):=by
 obtain ⟨p1,p2⟩:=xg7 (d:=d) hs.size (fun t ht=>hmv.rel (hs.tmps t ht)) hr
 exact ⟨hbel,hout,p1,p2,hR',by rw [xcc];exact hs.defers,hs.ev.step hmv⟩
theorem xir (hIo:InvOk Inv) (hI:Inv w0) {s s':St} {o:Oper} {a:Act} (h:OpF P Inv s o s') (hs:SR w0 A0 w A M s a) {K:Act→World→Prop} {Q:Exit→Act→World→Prop}
  (hK:∀ v w' A' M',SR w0 A0 w' A' M' s' (a.put o.dst v)→Mv w A M w' A' M'→K (a.put o.dst v) w'):o.wp P a w K Q:=by
 obtain ⟨A1,hs1,hmv1⟩:=hs.refreeze h.sub
 obtain ⟨x,hx,hwp⟩:=xfZ (w:=w) (A:=A1) (M:=M) (B:=w0.heap.size) (a:=a) (K:=K) (Q:=Q) h (HSub.refl _) hs1.heap hs.base.size (hs.inv hIo hI) (fun y _=>by have:=hs1.eval y;exact this)
  (fun _=>hs.heap.free_of_length (Nat.le_refl _))
 refine hwp fun v w' A' M' hbel hext hA hM ht hR' hr=>?_
 have hmv2:Mv w A1 M w' A' M':=⟨hbel.size,fun b hb _=>hbel.block b hb,fun b hb h=>(hA b hb).1 h,fun b hb h _=>(hA b hb).2 h,hext,ht⟩
 have:=hs1.put (d:=o.dst) (hs.base.trans (hbel.mono hs.base.size)) (fun b hb=>(hA b (Nat.lt_of_lt_of_le hb hs.base.size)).trans (hs1.outer b hb)) hmv2 hR' hr
 refine hK v w' A' M' ?_ (hmv1.trans hmv2)
 have e:s'=⟨putT s.tmps o.dst x,s'.heap⟩:=by rw [←hx]
 rw [e];exact this
theorem xl8 (hIo:InvOk Inv) (hI:Inv w0) {s s':St} {o:Oper} {a:Act} (h:OpF P Inv s o s') (hs:SR w0 A0 w A M s a) {K:Act→World→Prop} {Q:Exit→Act→World→Prop} (hK:∀ a' w',SOk w0 A0 s' a' w'→K a' w'):o.wp P a w K Q :=
 xir hIo hI h hs fun _ _ A' M' h _=>hK _ _ ⟨A',M',h⟩
theorem xbI (f:Nat→Nat→Option (Nat×Nat)):∀ (xs:List AV) (i:Nat),(rens f xs).getD i .top=ren f (xs.getD i .top)
 | [],i=>by simp [rens,ren]
 | x::xs,0=>by simp [rens]
 | x::xs,i+1=>by simpa [rens] using xbI f xs i
theorem xao (f:Nat→Nat→Option (Nat×Nat)):∀ xs:List AV,(rens f xs).length=xs.length
 | []=>rfl
 | x::xs=>by simp [rens,xao f xs]
theorem xhJ (f:Nat→Nat→Option (Nat×Nat)) (x:AV):(ren f x).cells=rens f x.cells:=by
 cases x<;>first|rfl|skip
 · rename_i id ver i j
   simp only [ren,AV.cells,rens]
   cases renI f id ver<;>rfl
 · rename_i id ver i j
   simp only [ren,AV.cells,rens]
   cases renI f id ver<;>rfl
theorem xep {f:Nat→Nat→Option (Nat×Nat)}:∀ {xs:List AV},rensOk f xs=true→∀ x,x∈xs→renOk f x=true
 | [],_,x,hx=>by simp at hx
 | y::ys,h,x,hx=>by
  simp only [rensOk,Bool.and_eq_true] at h
  rcases List.mem_cons.1 hx with rfl|hx
  · exact h.1
  · exact xep h.2 x hx
theorem xhK {f:Nat→Nat→Option (Nat×Nat)}:∀ {xs:List AV},(∀ x,x∈xs→renOk f x=true)→rensOk f xs=true
 | [],_=>rfl
 | y::ys,h=>by simp only [rensOk,Bool.and_eq_true];exact ⟨h y (by simp),xhK fun x hx=>h x (by simp [hx])⟩
theorem xiY {f:Nat→Nat→Option (Nat×Nat)} {x:AV} (h:renOk f x=true):rensOk f x.cells=true:=by
 cases x<;>first|(simpa [renOk,AV.cells] using h)|(simp [AV.cells,rensOk,h])
theorem xmf {f:Nat→Nat→Option (Nat×Nat)} {x:AV} (h:renOk f x=true) (hx:x.one=true):(ren f x).one=true:=by
 cases x<;>first
  | rfl
  | (simp [AV.one] at hx;done)
  | (simp only [renOk,Option.isSome_iff_exists] at h;obtain ⟨⟨k,v⟩,h⟩:=h;simp only [ren,h];rfl)
theorem xfY {f:Nat→Nat→Option (Nat×Nat)}:∀ {xs:List AV} {y:AV},y∈rens f xs→∃ x,x∈xs∧y=ren f x
 | [],y,h=>by simp [rens] at h
 | x::xs,y,h=>by
  simp only [rens] at h
  rcases List.mem_cons.1 h with rfl|h
  · exact ⟨x,by simp,rfl⟩
  · obtain ⟨x',h1,h2⟩:=xfY h
    exact ⟨x',by simp [h1],h2⟩
theorem xjW {f:Nat→Nat→Option (Nat×Nat)} {sz:Nat} {x:AV} (h:renOk f x=true) (hx:x.okElem sz=true):(ren f x).okElem sz=true:=by
 have h1:=xab hx
 have h2:=xag hx
 simp only [AV.okElem,xhJ,xao,h1,beq_self_eq_true,Bool.true_and,List.all_eq_true]
 intro y hy
 obtain ⟨z,hz,rfl⟩:=xfY hy
 rw [List.all_eq_true] at h2
 exact xmf (xep (xiY h) z hz) (h2 z hz)
theorem xgK {f:Nat→Nat→Option (Nat×Nat)} (h:∀ j ver,(f j ver).isSome=true) (id:Id) (ver:Nat):(renI f id ver).isSome=true:=by
 cases id with
 | b n =>
  obtain ⟨⟨k,v⟩,hk⟩:=Option.isSome_iff_exists.1 (h n ver)
  simp [renI,hk]
 | r g i j =>
  obtain ⟨⟨k,v⟩,hk⟩:=Option.isSome_iff_exists.1 (h g 0)
  simp [renI,hk]
mutual
theorem xfI {f:Nat→Nat→Option (Nat×Nat)} (h:∀ j ver,(f j ver).isSome=true):∀ x:AV,renOk f x=true
 | .agg cs=>xcD h cs
 | .func _ cs=>xcD h cs
 | .tuple cs=>xcD h cs
 | .own id ver _ _=>xgK h id ver
 | .osl id ver _ _=>xgK h id ver
 | .list _ _=>rfl
 | .eptr _ _ _ _=>rfl
 | .top=>rfl
 | .bool _=>rfl
 | .int _ _=>rfl
 | .str _=>rfl
 | .nils=>rfl
 | .nilptr=>rfl
 | .nilfn=>rfl
 | .empt=>rfl
 | .gptr _=>rfl
theorem xcD {f:Nat→Nat→Option (Nat×Nat)} (h:∀ j ver,(f j ver).isSome=true):∀ xs:List AV,rensOk f xs=true
 | []=>rfl
 | x::xs=>by simp only [rensOk,xfI h x,xcD h xs,Bool.and_self]
end
def RenTo (f:Nat→Nat→Option (Nat×Nat)) (M M':Id→Option MB):Prop :=
 ∀ id ver k v m,renI f id ver=some (k,v)→M id=some m→ver≤m.ver→∃ m',M' k=some m'∧v≤m'.ver∧m'.b=m.b∧m'.sz=m.sz∧m'.cap=m.cap∧m'.ty=m.ty∧(v=m'.ver→ver=m.ver)
theorem Rel.ren {w:World} {A:Nat→Prop} {M M':Id→Option MB} {f:Nat→Nat→Option (Nat×Nat)} {v:Value} {x:AV} (h:Rel w A M v x):RenTo f M M'→Rel w A M' v (Sim.ren f x):=by
 induction h generalizing M' with
 | top v=>intro _;exact .top v
 | bool b=>intro _;exact .bool b
 | int k n=>intro _;exact .int k n
 | str s=>intro _;exact .str s
 | agg vs cs h hr ih=>intro hf;exact .agg vs _ (by rw [xao];exact h) fun i hi=>by rw [xbI];exact ih i (by rwa [xao] at hi) hf
 | nils=>intro _;exact .nils
 | list0 a cap sz=>intro _;exact .list0 a cap sz
 | list b off cap sz xs val ha hb hne hcap hsz hc hr ih=>intro _;exact .list b off cap sz xs val ha hb hne hcap hsz hc hr
 | eptr b off sz xs i0 j0 val ha hb hi hsz hc hr ih=>intro _;exact .eptr b off sz xs i0 j0 val ha hb hi hsz hc hr
 | own v id ver i j m hm hv h1 he =>
  intro hf
  simp only [Sim.ren]
  split
  · rename_i k u hk
    obtain ⟨m',g1,g2,g3,g4,g5,g7,g6⟩:=hf id ver k u m hk hm hv
    exact .own v k u i j m' g1 g2 h1 fun e=>by rw [he (g6 e)];unfold ptrOf;rw [g3,g4,g5,g7]
  · exact .top _
 | osl v id ver off len m hm hv h1 he =>
  intro hf
  simp only [Sim.ren]
  split
  · rename_i k u hk
    obtain ⟨m',g1,g2,g3,g4,g5,g7,g6⟩:=hf id ver k u m hk hm hv
    exact .osl v k u off len m' g1 g2 h1 fun e=>by rw [g3,g4,g5];exact he (g6 e)
  · exact .top _
 | nilptr=>intro _;exact .nilptr
 | func g vs cs h hr ih=>intro hf;exact .func g vs _ (by rw [xao];exact h) fun i hi=>by rw [xbI];exact ih i (by rwa [xao] at hi) hf
 | nilfn=>intro _;exact .nilfn
 | empt a=>intro _;exact .empt a
 | tuple vs cs h hr ih=>intro hf;exact .tuple vs _ (by rw [xao];exact h) fun i hi=>by rw [xbI];exact ih i (by rwa [xao] at hi) hf
 | gptr g=>intro _;exact .gptr g
theorem xjY (f:Nat→Nat→Option (Nat×Nat)) (x:AV):rowLen (Sim.ren f x)=rowLen x:=by
 cases x<;>first|rfl|(simp only [Sim.ren];split<;>rfl)
theorem xhM {M':Id→Option MB} {v:Value} {n n' i j:Nat} {x y:AV} (h:Rel w A M v (rowRef n i j x)) (hy:rowLen y=rowLen x) (hM:∀ m,M (.r n i j)=some m→M' (.r n' i j)=some m):Rel w A M' v (rowRef n' i j y):=by
 obtain ⟨m,h1,h2,h3,h4⟩:=Rel.osl_inv h
 unfold rowRef
 rw [hy]
 exact .osl v (.r n' i j) _ _ _ m (hM m h1) h2 h3 h4
theorem BoxAt.ren {M':Id→Option MB} {B:Nat} {f:Nat→Nat→Option (Nat×Nat)} {id id':Id} {m m':MB} {bx:Box} {ver:Nat} (h:BoxAt w A M B id m bx) (hok:renBoxOk f bx=true) (hf:RenTo f M M') (hrow:∀ i j m0,M (.r id.base i j)=some m0→M' (.r id'.base i j)=some m0)
  (e1:m'.b=m.b) (e2:m'.ver=ver) (e3:m'.sz=m.sz) (e4:m'.cap=m.cap) (e5:m'.ty=m.ty) :
  BoxAt w A M' B id' m' (renBox f ver bx):=by
 obtain ⟨bver,bsz,bty,bxs,bfrz,bpm⟩:=bx
 cases bpm with
 | true =>
  refine ⟨e2.symm,by rw [e3];exact h.sz,by rw [e5];exact h.ty,by rw [e4];exact h.capm,by rw [e4];exact h.fits,by rw [e3];exact h.ok,by rw [e1,e4];exact h.low,by rw [e1,e4];exact h.lt,fun h0=>?_,by rw [e1,e4];exact h.guard⟩
  rw [e4] at h0
  obtain ⟨c,g1,g2,g3⟩:=h.cells h0
  refine ⟨c,g1.re e1 e3 e4 e5,by rw [e3,e4];exact g2,fun i j hi hj=>?_⟩
  rw [e3] at hj ⊢
  have g4:=g3 i j hi hj
  have et:(renBox f ver ⟨bver,bsz,bty,bxs,bfrz,true⟩).ty=bty:=rfl
  have ex:(renBox f ver ⟨bver,bsz,bty,bxs,bfrz,true⟩).xs=bxs:=rfl
  have ep:(renBox f ver ⟨bver,bsz,bty,bxs,bfrz,true⟩).pm=true:=rfl
  unfold MV viewC at g4 ⊢
  rw [et,ex,ep]
  simp only at g4
  cases hs:isSlot bty j with
  | true =>
   simp only [hs] at g4 ⊢
   exact xhM g4 rfl (hrow i j)
  | false =>
   simp only [hs] at g4 ⊢
   exact g4
 | false =>
  refine ⟨e2.symm,by rw [e3];exact h.sz,by rw [e5];exact h.ty,by rw [e4];exact h.capm,by rw [e4];simp only [renBox,xao];exact h.fits,fun x hx=>?_,by rw [e1,e4];exact h.low,by rw [e1,e4];exact h.lt,fun h0=>?_,by rw [e1,e4];exact h.guard⟩
  · obtain ⟨y,hy,rfl⟩:=xfY hx
    rw [e3]
    exact xjW (xep hok y hy) (h.ok y hy)
  · rw [e4] at h0
    obtain ⟨c,g1,g2,g3⟩:=h.cells h0
    refine ⟨c,by simp only [renBox,xao];exact g1.re e1 e3 e4 e5,by rw [e3,e4];exact g2,fun i j hi hj=>?_⟩
    rw [e3] at hj ⊢
    simp only [renBox,xao] at hi
    have g4:=g3 i j hi hj
    have et:(renBox f ver ⟨bver,bsz,bty,bxs,bfrz,false⟩).ty=bty:=rfl
    have ex:(renBox f ver ⟨bver,bsz,bty,bxs,bfrz,false⟩).xs=rens f bxs:=rfl
    have ep:(renBox f ver ⟨bver,bsz,bty,bxs,bfrz,false⟩).pm=false:=rfl
    unfold MV viewC at g4 ⊢
    rw [et,ex,ep,xbI,xhJ,xbI]
    simp only at g4
    cases hs:isSlot bty j with
    | true =>
     simp only [hs] at g4 ⊢
     exact xhM g4 (xjY f _) (hrow i j)
    | false =>
     simp only [hs] at g4 ⊢
     exact g4.ren (f:=f) (M':=M') hf
theorem xjO (a:Nat) (l:List Nat) (x:Nat):posOf (a::l) x=match Nat.beq a x with|true=>some 0|false=>(match posOf l x with|some j=>some (j+1)|none=>none):=rfl
theorem xbH:∀ {l:List Nat} {x j:Nat},posOf l x=some j→l[j]?=some x
 | [],x,j,h=>by simp [posOf] at h
 | a::l,x,j,h=>by
  unfold posOf at h
  split at h
  · rename_i hb
    have:=Nat.eq_of_beq_eq_true hb
    simp only [Option.some.injEq] at h
    subst h;subst this;rfl
  · split at h
    · rename_i j' hj
      simp only [Option.some.injEq] at h
      subst h
      simpa using xbH hj
    · simp at h
theorem xgE:∀ {l:List Nat} {x:Nat},posOf l x=none→x∉l
 | [],x,_=>by simp
 | a::l,x,h=>by
  unfold posOf at h
  split at h
  · simp at h
  · rename_i hb
    split at h
    · simp at h
    · rename_i hn
      have hne:a≠x:=fun e=>by subst e;simp at hb
      simp only [List.mem_cons,not_or]
      exact ⟨fun e=>hne e.symm,xgE hn⟩
theorem xbR:∀ {l:List Nat} {x j:Nat},nodupB l=true→l[j]?=some x→posOf l x=some j
 | [],x,j,_,h=>by simp at h
 | a::l,x,j,hn,h=>by
  unfold nodupB at hn
  split at hn
  · simp at hn
  rename_i hna
  cases j with
  | zero =>
   simp only [List.getElem?_cons_zero,Option.some.injEq] at h
   subst h
   unfold posOf
   simp
  | succ j =>
   have h':l[j]?=some x:=by simpa using h
   have hne:a≠x:=fun e=>by
    subst e
    exact xgE hna (List.mem_of_getElem? h')
   unfold posOf
   have hb:Nat.beq a x=false:=by
    cases hb:Nat.beq a x with
    | false=>rfl
    | true=>exact absurd (Nat.eq_of_beq_eq_true hb) hne
   simp only [hb,xbR hn h']
theorem xeF {f:Nat→Nat→Option (Nat×Nat)} {H:List Box}:∀ {ids:List Nat} {H0:List Box},subBoxes f H ids=some H0→H0.length=ids.length∧∀ (j id:Nat),ids[j]?=some id→∃ bx:Box,H[id]?=some bx∧H0[j]?=some (renBox f bx.ver bx)∧renBoxOk f bx=true
 | [],H0,h=>by simp only [subBoxes,Option.some.injEq] at h;subst h;simp
 | a::ids,H0,h=>by
  unfold subBoxes at h
  split at h
  case h_2=>simp at h
  rename_i bx hb
  split at h
  case h_2=>simp at h
  rename_i hok
  split at h
  case h_2=>simp at h
  rename_i bs hbs
  simp only [Option.some.injEq] at h;subst h
  obtain ⟨h1,h2⟩:=xeF hbs
  refine ⟨by simp [h1],fun j id hj=>?_⟩
  cases j with
  | zero =>
   simp only [List.getElem?_cons_zero,Option.some.injEq] at hj
   subst hj
   exact ⟨bx,hb,rfl,hok⟩
  | succ j=>exact h2 j id (by simpa using hj)
theorem xcx (f:Nat→Nat→Option (Nat×Nat)):∀ (bs:List Box) (j:Nat),(backBoxes f bs)[j]?=(bs[j]?).map fun bx=>renBox f bx.ver bx
 | [],j=>by simp [backBoxes]
 | b::bs,0=>by simp [backBoxes]
 | b::bs,j+1=>by simpa [backBoxes] using xcx f bs j
theorem xbP:∀ (ids:List Nat) (bs:List Box) (H:List Box),(setAllB H ids bs).length=H.length
 | [],_,H=>by simp [setAllB]
 | id::ids,[],H=>by simp [setAllB]
 | id::ids,b::bs,H=>by simp only [setAllB];rw [xbP ids bs];simp
theorem xd0:∀ {ids:List Nat} {bs H:List Box} {id:Nat},nodupB ids=true→id<H.length→(setAllB H ids bs)[id]?=match posOf ids id with
  | some j=>(match bs[j]? with|some b=>some b|none=>H[id]?)
  | none=>H[id]?
 | [],bs,H,id,_,_=>by cases bs<;>simp [setAllB,posOf]
 | a::ids,[],H,id,_,_=>by
  simp only [setAllB]
  split<;>simp
 | a::ids,b::bs,H,id,hn,hlt=>by
  unfold nodupB at hn
  split at hn
  · simp at hn
  rename_i hna
  simp only [setAllB]
  rw [xd0 hn (by simpa using hlt)]
  rw [xjO]
  cases hb:Nat.beq a id with
  | true =>
   have:=Nat.eq_of_beq_eq_true hb
   subst this
   simp [hna,hlt]
  | false =>
   have hne:a≠id:=fun e=>by subst e;simp at hb
   cases hp:posOf ids id with
   | none=>simp [List.getElem?_set_ne hne]
   | some j=>simp [List.getElem?_set_ne hne]
def Id.re:Id→Nat→Id
 | .b _,n=>.b n
 | .r _ i j,n=>.r n i j
@[simp] theorem Id.re_base (x:Id) (n:Nat):(x.re n).base=n:=by cases x<;>rfl
@[simp] theorem Id.re_re (x:Id) (n m:Nat):(x.re n).re m=x.re m:=by cases x<;>rfl
@[simp] theorem Id.re_self (x:Id):x.re x.base=x:=by cases x<;>rfl
theorem Id.re_inj {x y:Id} {n m:Nat} (h:x.re n=y.re m):n=m∧(x.base=y.base→x=y):=by
 cases x<;>cases y<;>simp only [Id.re,Id.b.injEq,Id.r.injEq,reduceCtorEq] at h
 · exact ⟨h,fun e=>by simp only [Id.base] at e;rw [e]⟩
 · obtain ⟨h1,h2,h3⟩:=h
   exact ⟨h1,fun e=>by simp only [Id.base] at e;rw [e,h2,h3]⟩
def onF (ids:List Nat) (n k j:Nat):Nat:=match ids[j]? with
 | some id=>id
 | none=>n+(j - k)
theorem xg1 (ids:List Nat) (n k j ver:Nat):outF ids n k j ver=some (onF ids n k j,ver):=by
 unfold outF onF
 split<;>rfl
theorem xk6 (ids:List Nat) (n k:Nat) (x:Id) (ver:Nat):renI (outF ids n k) x ver=some (x.re (onF ids n k x.base),ver):=by
 cases x with
 | b m=>simp only [renI,xg1,Id.base,Id.re]
 | r f i j=>simp only [renI,xg1,Id.base,Id.re]
theorem xlD {ids:List Nat} {x k:Id} {ver v:Nat} (h:renI (inF ids) x ver=some (k,v)):v=ver∧∃ j,posOf ids x.base=some j∧k=x.re j:=by
 cases x with
 | b m =>
  simp only [renI,inF] at h
  cases hp:posOf ids m with
  | none=>rw [hp] at h;simp at h
  | some j =>
   rw [hp] at h
   simp only [Option.some.injEq,Prod.mk.injEq] at h
   exact ⟨h.2.symm,j,hp,h.1.symm⟩
 | r f i' j' =>
  simp only [renI,inF] at h
  cases hp:posOf ids f with
  | none=>rw [hp] at h;simp at h
  | some j =>
   rw [hp] at h
   simp only [Option.some.injEq,Prod.mk.injEq] at h
   exact ⟨h.2.symm,j,hp,h.1.symm⟩
theorem xe9 {f:Nat→Nat→Option (Nat×Nat)} {bx:Box} (h:bx.pm=true):renBox f bx.ver bx=bx:=by
 obtain ⟨a,b,c,d,e,p⟩:=bx
 simp only at h
 subst h
 rfl
theorem xdZ {f:Nat→Nat→Option (Nat×Nat)} {bx:Box} (h:bx.pm=true):renBoxOk f bx=true:=by
 unfold renBoxOk;rw [h]
theorem xeg {H H':List Box} {f:Nat→Nat→Option (Nat×Nat)} {n n' i j:Nat} {rb:Box} (hb:getB H (.r n i j)=some rb) (hH:∀ bx0,H[n]?=some bx0→∃ V,H'[n']?=some (renBox f V bx0)):getB H' (.r n' i j)=some rb:=by
 obtain ⟨bx0,h1,h6⟩:=xdm hb
 obtain ⟨V,h5⟩:=hH bx0 h1
 obtain ⟨a,b,c,d,e,p⟩:=bx0
 rcases h6 with ⟨hc,rfl⟩|⟨hc,h2,h3,h4,rfl⟩
 · refine xbG h5 ?_
   cases p<;>exact hc
 · simp only at hc h2 h3 h4
   subst h3
   rw [xbw h5 hc h2 rfl h4]
   simp only [renBox]
   generalize (d.getD i .top).cells.getD j .top=x
   cases x<;>rfl
theorem xdQ {H:List Box} {n i j:Nat} {rb:Box} (hb:getB H (.r n i j)=some rb):rb.pm=true:=by
 obtain ⟨bx0,_,⟨_,rfl⟩|⟨_,_,_,_,rfl⟩⟩:=xdm hb
 · rfl
 · exact xk7 _ _
theorem xjy (hI:Inv w0) (hbase:Below w0.heap.size w0 w) {H:List Box} (hR:HR w A M w0.heap.size H) {g:FuncId} {args:List AV} {vs:List Value} (hv:RC w A M vs args) {ids:List Nat} (hnd:nodupB ids=true) {H0 H0':List Box} {r0:AV}
  (hsub:subBoxes (inF ids) H ids=some H0) (hg:GoodM P Inv g (rens (inF ids) args) H0 r0 H0') :
  Calls P g vs.toArray w fun e w'=>∃ v A' M',e=.returned v∧Below w0.heap.size w0 w'∧(∀ b,b<w0.heap.size→(A' b↔A b))∧Mv w A M w' A' M'∧HR w' A' M' w0.heap.size (outHeap H ids H0')∧Rel w' A' M' v (ren (outF ids H.length ids.length) r0):=by
 obtain ⟨hl0,hsp⟩:=xeF hsub
 let M0:Id→Option MB:=fun x=>(ids[x.base]?).bind fun n=>M (x.re n)
 have hM0:∀ (x:Id) n,ids[x.base]?=some n→M0 x=M (x.re n):=fun x n hj=>by simp [M0,hj]
 have hM0s:∀ (x:Id) m,M0 x=some m→∃ n,ids[x.base]?=some n∧M (x.re n)=some m:=fun x m h=>by
  simp only [M0] at h
  cases hj:ids[x.base]? with
  | none=>rw [hj] at h;simp at h
  | some n=>rw [hj] at h;exact ⟨n,rfl,by simpa using h⟩
 have hin:RenTo (inF ids) M M0:=fun id ver k v m hf hm hv=>by
  obtain ⟨rfl,j,hj,rfl⟩:=xlD hf
  exact ⟨m,by rw [hM0 (id.re j) id.base (by rw [Id.re_base];exact xbH hj),Id.re_re,Id.re_self];exact hm,hv,rfl,rfl,rfl,rfl,fun e=>e⟩
 have hrow0:∀ k n,ids[k]?=some n→∀ i j m0,M (.r n i j)=some m0→M0 (.r k i j)=some m0:=fun k n hk i j m0 h=>by
  rw [hM0 (.r k i j) n hk];exact h
 have hR0:HR w A M0 w0.heap.size H0:=by
  refine ⟨fun x m hm=>?_,fun x x' m m' h1 h2 c1 c2 he=>?_,hR.lt⟩
  · obtain ⟨n,hj,hid⟩:=hM0s x m hm
    obtain ⟨bx,g1,g2,g3⟩:=hsp x.base n hj
    obtain ⟨bx',g4,g5⟩:=hR.box (x.re n) m hid
    cases x with
    | b k =>
     have g4':H[n]?=some bx':=g4
     rw [g1] at g4'
     simp only [Option.some.injEq] at g4'
     subst g4'
     exact ⟨_,g2,g5.ren g3 hin (hrow0 k n hj) rfl g5.ver.symm rfl rfl rfl⟩
    | r k i j =>
     have hp:=xdQ g4
     have g6:getB H0 (.r k i j)=some bx':=xeg (f:=inF ids) g4 fun bx0 hb0=>by
      rw [g1] at hb0
      simp only [Option.some.injEq] at hb0
      subst hb0;exact ⟨_,g2⟩
     have g7:=g5.ren (f:=inF ids) (M':=M0) (id':=.r k i j) (m':=m) (ver:=m.ver) (xdZ hp) hin (hrow0 k n hj) rfl rfl rfl rfl rfl
     rw [←g5.ver,xe9 hp] at g7
     exact ⟨bx',g6,g7⟩
  · obtain ⟨n,e1,e2⟩:=hM0s x m h1
    obtain ⟨n',e3,e4⟩:=hM0s x' m' h2
    have:=hR.inj _ _ m m' e2 e4 c1 c2 he
    obtain ⟨rfl,hx⟩:=Id.re_inj this
    have p1:=xbR hnd e1
    have p2:=xbR hnd e3
    rw [p1] at p2
    exact hx (by simpa using p2)
 have hv0:RC w A M0 vs (rens (inF ids) args):=⟨by rw [xao];exact hv.1,fun i hi=>by
  rw [xbI];exact (hv.2 i (by rwa [xao] at hi)).ren hin⟩
 refine (hg.2 w0 w A M0 vs hI hbase hR0 hv0).mono ?_
 rintro e w' ⟨v,A',M0',rfl,hbel,hout,hev,hR0',hr⟩
 have hw1:w.heap.size≤w'.heap.size:=hev.size
 have hidlt:∀ j id,ids[j]?=some id→id<H.length:=fun j id hj=>by
  obtain ⟨bx,g1,_⟩:=hsp j id hj
  rcases Nat.lt_or_ge id H.length with h|h
  · exact h
  · rw [List.getElem?_eq_none h] at g1;simp at g1
 have hMlt:∀ id m,M id=some m→id.base<H.length:=fun id m hm=>by
  obtain ⟨bx,g1,_⟩:=hR.box id m hm
  exact xcH g1
 let M':Id→Option MB:=fun x=>match posOf ids x.base with
  | some j=>M0' (x.re j)
  | none=>if x.base<H.length then M x else M0' (x.re (x.base - H.length+ids.length))
 have hM'p:∀ (x:Id) j,posOf ids x.base=some j→M' x=M0' (x.re j):=fun x j h=>by simp [M',h]
 have hM'o:∀ x:Id,posOf ids x.base=none→x.base<H.length→M' x=M x:=fun x h h'=>by simp [M',h,h']
 have hpn:∀ x:Id,¬ x.base<H.length→posOf ids x.base=none:=fun x h=>by
  cases hp:posOf ids x.base with
  | none=>rfl
  | some j=>exact absurd (hidlt j _ (xbH hp)) h
 have hM'n:∀ x:Id,¬ x.base<H.length→M' x=M0' (x.re (x.base - H.length+ids.length)):=fun x h=>by
  simp [M',hpn x h,h]
 have hge:∀ j,ids[j]?=none→ids.length≤j:=fun j hj=>by
  rcases Nat.lt_or_ge j ids.length with h|h
  · rw [List.getElem?_eq_getElem h] at hj;simp at hj
  · exact h
 have hM'y:∀ y:Id,M' (y.re (onF ids H.length ids.length y.base))=M0' y:=fun y=>by
  unfold onF
  cases hj:ids[y.base]? with
  | some id =>
   simp only
   rw [hM'p _ y.base (by rw [Id.re_base];exact xbR hnd hj),Id.re_re,Id.re_self]
  | none =>
   have:=hge _ hj
   simp only
   rw [hM'n _ (by rw [Id.re_base];omega),Id.re_base,Id.re_re,show H.length+(y.base - ids.length) - H.length+ids.length=y.base by omega,Id.re_self]
 have hcase:∀ (x:Id) m,M' x=some m→(∃ y:Id,M0' y=some m∧x=y.re (onF ids H.length ids.length y.base))∨(posOf ids x.base=none∧x.base<H.length∧M x=some m):=fun x m hm=>by
  cases hp:posOf ids x.base with
  | some j =>
   rw [hM'p x j hp] at hm
   exact .inl ⟨x.re j,hm,by rw [Id.re_re,Id.re_base];unfold onF;rw [xbH hp];simp⟩
  | none =>
   by_cases hlt:x.base<H.length
   · rw [hM'o x hp hlt] at hm;exact .inr ⟨rfl,hlt,hm⟩
   · rw [hM'n x hlt] at hm
     refine .inl ⟨_,hm,?_⟩
     rw [Id.re_re,Id.re_base]
     unfold onF
     rw [List.getElem?_eq_none (by omega)]
     simp only
     rw [show H.length+(x.base - H.length+ids.length - ids.length)=x.base by omega,Id.re_self]
 have hoback:RenTo (outF ids H.length ids.length) M0' M':=fun y ver k u m hf hm hv=>by
  rw [xk6] at hf
  simp only [Option.some.injEq,Prod.mk.injEq] at hf
  obtain ⟨rfl,rfl⟩:=hf
  exact ⟨m,by rw [hM'y];exact hm,hv,rfl,rfl,rfl,rfl,fun e=>e⟩
 have houtok:∀ bx:Box,renBoxOk (outF ids H.length ids.length) bx=true:=by
  have htot:∀ j ver,(outF ids H.length ids.length j ver).isSome=true:=fun j ver=>by rw [xg1];rfl
  have key:∀ x:AV,renOk (outF ids H.length ids.length) x=true:=xfI htot
  intro bx
  unfold renBoxOk
  split
  · rfl
  · exact xhK fun x _=>key x
 have hheapN:∀ j bx,H0'[j]?=some bx→(outHeap H ids H0')[onF ids H.length ids.length j]?=some (renBox (outF ids H.length ids.length) bx.ver bx):=fun j bx g1=>by
  unfold onF
  cases hj:ids[j]? with
  | some id' =>
   have hlt:=hidlt j id' hj
   unfold outHeap
   simp only
   rw [List.getElem?_append_left (by rw [xbP];exact hlt),xd0 hnd hlt,xbR hnd hj]
   simp only [xcx,g1,Option.map_some]
  | none =>
   have:=hge _ hj
   unfold outHeap
   simp only
   rw [List.getElem?_append_right (by rw [xbP];omega),xbP,List.getElem?_drop,show ids.length+(H.length+(j - ids.length) - H.length)=j by omega,xcx,g1]
   rfl
 have hrow1:∀ k i j m0,M0' (.r k i j)=some m0→M' (.r (onF ids H.length ids.length k) i j)=some m0:=fun k i j m0 h=>by
  have:=hM'y (.r k i j)
  rw [h] at this;exact this
 have hoOut:∀ x:Id,posOf ids x.base=none→x.base<H.length→(outHeap H ids H0')[x.base]?=H[x.base]?:=fun x hp hlt=>by
  unfold outHeap
  rw [List.getElem?_append_left (by rw [xbP];exact hlt),xd0 hnd hlt,hp]
 have hMb:∀ b,(∀ id m,M id=some m→0<m.cap→m.b≠b)→∀ j m,M0 j=some m→0<m.cap→m.b≠b:=fun b h j m hm h0=>by
  obtain ⟨id,_,hid⟩:=hM0s j m hm
  exact h _ m hid h0
 have hother:∀ (x:Id) m,posOf ids x.base=none→M x=some m→0<m.cap→∀ y m0,M0 y=some m0→0<m0.cap→m0.b≠m.b:=fun x m hp hm h0 y m0 hj c0 he=>by
  obtain ⟨n,e1,e2⟩:=hM0s y m0 hj
  have:=hR.inj _ x m0 m e2 hm c0 h0 he
  subst this
  rw [Id.re_base,xbR hnd e1] at hp
  simp at hp
 have hext:MExt M M':=fun x m hm=>by
  cases hp:posOf ids x.base with
  | some j =>
   obtain ⟨m',g1,g2⟩:=hev.ids (x.re j) m (by
    show (x.re j).base<H0.length
    rw [Id.re_base,hl0]
    rcases Nat.lt_or_ge j ids.length with h|h
    · exact h
    · have:=xbH hp;rw [List.getElem?_eq_none h] at this;simp at this) (by show M0 (x.re j)=some m;rw [hM0 (x.re j) x.base (by rw [Id.re_base];exact xbH hp),Id.re_re,Id.re_self];exact hm)
   exact ⟨m',by rw [hM'p x j hp];exact g1,g2⟩
  | none=>exact ⟨m,by rw [hM'o x hp (hMlt x m hm)];exact hm,.inl rfl⟩
 have hkeep:∀ b,b<w.heap.size→¬ A b→w'.heap[b]?=w.heap[b]?:=fun b hb hA=>hev.keep b hb (.inl hA)
 have htouch:Touch w w' M M':=⟨fun b hb hno=>hev.keep b hb (.inr (hMb b hno)),fun id m' hm h0=>by
  rcases hcase id m' hm with ⟨j,hj,_⟩|⟨_,_,hm'⟩
  · rcases hev.src j m' hj h0 with ⟨i,m,h1,h2,h3⟩|h1
    · obtain ⟨id',_,hid'⟩:=hM0s i m h1
      exact .inl ⟨_,m,hid',h2,h3⟩
    · exact .inr h1
  · exact .inl ⟨id,m',hm',h0,rfl⟩⟩
 have hmv:Mv w A M w' A' M':=⟨hw1,hkeep,fun b hb h=>hev.less b hb h,fun b hb h hno=>hev.more b hb h (hMb b hno),hext,htouch⟩
 refine ⟨v,A',M',rfl,hbel,hout,hmv,⟨fun id m hm=>?_,fun id id' m m' h1 h2 c1 c2 he=>?_,hR0'.lt⟩,hr.ren hoback⟩
 · rcases hcase id m hm with ⟨j,hj,rfl⟩|⟨hp,hlt,hm'⟩
   · obtain ⟨bx',g3,g4⟩:=hR0'.box j m hj
     cases j with
     | b k=>exact ⟨_,hheapN k bx' g3,g4.ren (houtok bx') hoback (hrow1 k) rfl g4.ver.symm rfl rfl rfl⟩
     | r k i' j' =>
      have hp:=xdQ g3
      have g6:getB (outHeap H ids H0') (.r (onF ids H.length ids.length k) i' j')=some bx':=xeg (f:=outF ids H.length ids.length) g3 fun bx0 hb0=>⟨_,hheapN k bx0 hb0⟩
      have g7:=g4.ren (f:=outF ids H.length ids.length) (M':=M') (id':=.r (onF ids H.length ids.length k) i' j') (m':=m) (ver:=m.ver) (xdZ hp) hoback (hrow1 k) rfl rfl rfl rfl rfl
      rw [←g4.ver,xe9 hp] at g7
      exact ⟨bx',g6,g7⟩
   · obtain ⟨bx,g1,g2⟩:=hR.box id m hm'
     refine ⟨bx,by rw [xcv (hoOut id hp hlt)];exact g1,g2.mono (fun h0=>hev.keep m.b (g2.lt h0) (.inr (hother id m hp hm' h0))) hkeep hw1 (fun b hb h=>hev.less b hb h) (fun h0=>?_) hext⟩
     rw [g2.guard h0]
     exact ⟨fun h=>hev.more m.b (g2.lt h0) h (hother id m hp hm' h0),fun h=>hev.less m.b (g2.lt h0) h⟩
 · have mix:∀ (id2:Id) (m1 m2:MB) (j:Id),M0' j=some m1→posOf ids id2.base=none→M id2=some m2→0<m1.cap→0<m2.cap→m1.b=m2.b→False:=fun id2 m1 m2 j hj hp hm c1 c2 he=>by
    rcases hev.src j m1 hj c1 with ⟨i,m,e1,e2,e3⟩|e1
    · exact hother id2 m2 hp hm c2 i m e1 e2 (by rw [←e3,he])
    · obtain ⟨bx,_,g2⟩:=hR.box id2 m2 hm
      have:=g2.lt c2
      simp only at e1
      omega
   rcases hcase id m h1 with ⟨j,hj,hf⟩|⟨hp,hlt,hm1⟩<;>rcases hcase id' m' h2 with ⟨j',hj',hf'⟩|⟨hp',hlt',hm2⟩
   · have:=hR0'.inj j j' m m' hj hj' c1 c2 he
     subst this
     rw [hf,hf']
   · exact (mix id' m m' j hj hp' hm2 c1 c2 he).elim
   · exact (mix id m' m j' hj' hp hm1 c2 c1 he.symm).elim
   · exact hR.inj id id' m m' hm1 hm2 c1 c2 he
theorem xlC {a b:List AV} {d:Option Tmp} {x y:AV} (hl:a.length=b.length) (h:putT a d x=putT a d y):putT b d x=putT b d y:=by
 cases d with
 | none=>rfl
 | some d =>
  simp only [putT] at h ⊢
  by_cases hd:d<a.length
  · have:(a.set d x)[d]?=(a.set d y)[d]?:=by rw [h]
    simp [hd] at this
    rw [this]
  · have hd':b.length≤d:=by rw [←hl];exact Nat.le_of_not_lt hd
    rw [List.set_eq_of_length_le hd',List.set_eq_of_length_le hd']
theorem xe2 (hIo:InvOk Inv) (hI:Inv w0) {s s':St} {o:Oper} {a:Act} (h:OpI0 P Inv s o s') (hs:SR w0 A0 w A M s a) {K:Act→World→Prop} {Q:Exit→Act→World→Prop}
  (hK:∀ v w' A' M',SR w0 A0 w' A' M' s' (a.put o.dst v)→Mv w A M w' A' M'→K (a.put o.dst v) w'):o.wp P a w K Q:=by
 rcases h with ⟨x,H',hi,rfl⟩|⟨c,g,args,ids,H0,r0,H0',ho,hct,hnd,hsub,hg,rfl⟩|⟨s1,x,nb,hst,hf,rfl⟩
 · obtain ⟨n,w',A',M',v,hrun,hn,hbel,hext,hA,hkeep,ht,hR',hr⟩:=xkT (ρc:=a.eval) hs.heap hs.base.size (fun x=>hs.eval x) hi
   have hmv:Mv w A M w' A' M':=⟨hbel.size,hkeep,fun b hb h=>(hA b hb).1 h,fun b hb h _=>(hA b hb).2 h,hext,ht⟩
   have:=hK v w' A' M' (hs.put (hs.base.trans hbel) (fun b hb=>(hA b (Nat.lt_of_lt_of_le hb hs.base.size)).trans (hs.outer b hb)) hmv hR' hr) hmv
   unfold Oper.wp
   rw [hrun]
   rcases hn with rfl|⟨rfl,rfl⟩
   · exact this
   · exact this
 · unfold callTarget at hct
   split at hct
   case h_2=>simp at hct
   rename_i fo hcal
   split at hct
   case h_2=>simp at hct
   rename_i g' caps hfo
   simp only [Option.some.injEq,Prod.mk.injEq] at hct
   obtain ⟨rfl,rfl⟩:=hct
   have hfr:=hs.eval fo
   rw [hfo] at hfr
   obtain ⟨cv,hcv,hcs,hcr⟩:=hfr.func_inv
   have hma:=xfj (w:=w) (A:=A) (M:=M) (l:=c.args.toList) (ρc:=a.eval) (ρ:=s.eval) (fun x _=>hs.eval x)
   have hrc:RC w A M (c.args.toList.map a.eval++cv.toList) (c.args.toList.map s.eval++caps):=RC.append ⟨hma.1,hma.2⟩ ⟨by simpa using hcs,fun i hi=>by have:=hcr i hi;simpa [List.getD_eq_getElem?_getD,Array.getD_eq_getD_getElem?] using this⟩
   unfold Oper.wp
   rw [xid ho hcal hcv hg.1,Oper.upon_enter]
   refine (xjy hI hs.base hs.heap hrc hnd hsub hg).mono ?_
   rintro e w' ⟨v,A',M',rfl,hbel,hout,hmv,hR',hr⟩
   exact hK v w' A' M' (hs.put hbel (fun b hb=>(hout b hb).trans (hs.outer b hb)) hmv hR' hr) hmv
 · obtain ⟨fids,e1,e2,e3⟩:=hst
   have hsub1:HSub s1.heap (s1.heap++nb.toList):=HSub.append _ _
   have hsub:HSub s.heap (s1.heap++nb.toList):=by
    refine HSub.trans ?_ hsub1
    rw [e1];exact HSub.freeze _ _
   have hlen:s1.heap.length=s.heap.length:=by rw [e1,xhU]
   obtain ⟨A1,hsA,hmv1⟩:=hs.refreeze hsub
   have hfr:∀ id:Id,id.base∈fids→∀ m,M id=some m→0<m.cap→¬ A1 m.b:=fun id hid m hm h0 hA=>by
    obtain ⟨bx,hb1,hb2⟩:=hsA.heap.box id m hm
    obtain ⟨bx0,g1,_⟩:=hs.heap.box id m hm
    have h1:getB s1.heap id=some { bx0 with frz:=true }:=by
     rw [e1,xfB,g1]
     simp only [Option.map_some,frzIf,List.contains_iff_mem.2 hid,if_true]
    have h2:getB (s1.heap++nb.toList) id=some { bx0 with frz:=true }:=xfA h1
    have h2':getB (s1.heap++nb.toList) id=some bx:=hb1
    rw [h2] at h2'
    simp only [Option.some.injEq] at h2'
    have:=(hb2.guard h0).2 hA
    rw [←h2'] at this
    simp at this
   have hρ:∀ y,y∈o.op.operands.toList→Rel w A1 M (a.eval y) (s1.eval y):=fun y _=>by
    have key:∀ t,s1.eval (.tmp t)=s.eval (.tmp t)∨(resolve s.heap rfuel (s.eval (.tmp t))=some (s1.eval (.tmp t))∧∀ id,id∈reach s.heap rfuel (s.eval (.tmp t))→id∈fids):=fun t=>e3 t
    have h0:Rel w A1 M (a.eval y) (s.eval y):=by have:=hsA.eval y;cases y<;>exact this
    cases y with
    | tmp t =>
     rcases key t with h|⟨h,hid⟩
     · rw [h];exact h0
     · exact (xa3 hs.heap (A':=A1) (fun b hb h=>hmv1.less b hb h) rfuel _ _ _ (hs.eval (.tmp t)) h fun id hid' m hm h0=>hfr id (hid id.base hid') m hm h0).lift M
    | const v=>exact h0
    | global g=>exact h0
    | func f=>exact h0
   obtain ⟨x',hx,hwp⟩:=xfZ (P:=P) (Inv:=Inv) (s:=s1) (s':=⟨putT s1.tmps o.dst x,s1.heap++nb.toList⟩) (w:=w) (A:=A1) (M:=M) (B:=w0.heap.size) (a:=a) (K:=K) (Q:=Q) (o:=o) (.inl ⟨x,nb,.inl hf,rfl⟩) (HSub.refl _) hsA.heap hs.base.size (hs.inv hIo hI) hρ
    (fun _=>by rw [hlen];exact hs.heap.free_of_length (Nat.le_refl _))
   refine hwp fun v w' A' M' hbel hext hA hM ht hR' hr=>?_
   have hmv2:Mv w A1 M w' A' M':=⟨hbel.size,fun b hb _=>hbel.block b hb,fun b hb h=>(hA b hb).1 h,fun b hb h _=>(hA b hb).2 h,hext,ht⟩
   have:=hsA.put (d:=o.dst) (hs.base.trans (hbel.mono hs.base.size)) (fun b hb=>(hA b (Nat.lt_of_lt_of_le hb hs.base.size)).trans (hsA.outer b hb)) hmv2 hR' hr
   refine hK v w' A' M' ?_ (hmv1.trans hmv2)
   have e:putT s.tmps o.dst x=putT s.tmps o.dst x':=xlC e2 hx
   rw [e];exact this
theorem SR.settle {s s1:St} {a:Act} (hs:SR w0 A0 w A M s a) (hst:Settled s s1):∃ A1,SR w0 A0 w A1 M s1 a∧Mv w A M w A1 M:=by
 obtain ⟨fids,e1,e2,e3⟩:=hst
 have hsub:HSub s.heap s1.heap:=by rw [e1];exact HSub.freeze _ _
 obtain ⟨A1,hsA,hmv1⟩:=hs.refreeze hsub
 have hfr:∀ id:Id,id.base∈fids→∀ m,M id=some m→0<m.cap→¬ A1 m.b:=fun id hid m hm h0 hA=>by
  obtain ⟨bx,hb1,hb2⟩:=hsA.heap.box id m hm
  obtain ⟨bx0,g1,_⟩:=hs.heap.box id m hm
  have h1:getB s1.heap id=some { bx0 with frz:=true }:=by
   rw [e1,xfB,g1]
   simp only [Option.map_some,frzIf,List.contains_iff_mem.2 hid,if_true]
  have h2':getB s1.heap id=some bx:=hb1
  rw [h1] at h2'
  simp only [Option.some.injEq] at h2'
  have:=(hb2.guard h0).2 hA
  rw [←h2'] at this
  simp at this
 refine ⟨A1,⟨hsA.base,hsA.outer,hsA.size.trans e2.symm,fun t ht=>?_,hsA.heap,hsA.defers,hsA.ev⟩,hmv1⟩
 rw [e2] at ht
 rcases e3 t with h|⟨h,hid⟩
 · rw [h];exact hsA.tmps t ht
 · exact (xa3 hs.heap (A':=A1) (fun b hb h=>hmv1.less b hb h) rfuel _ _ _ (hs.tmps t ht) h fun id hid' m hm h0=>hfr id (hid id.base hid') m hm h0).lift M
theorem xis (hIo:InvOk Inv) (hI:Inv w0) {s s':St} {o:Oper} {a:Act} (h:OpI P Inv s o s') (hs:SR w0 A0 w A M s a) {K:Act→World→Prop} {Q:Exit→Act→World→Prop}
  (hK:∀ v w' A' M',SR w0 A0 w' A' M' s' (a.put o.dst v)→Mv w A M w' A' M'→K (a.put o.dst v) w'):o.wp P a w K Q:=by
 rcases h with h|⟨s1,⟨n,bx,h1,h2,hnm,h3,rfl⟩,h⟩|⟨s1,x,H',hst,hi,rfl⟩
 · exact xe2 hIo hI h hs hK
 · obtain ⟨A1,M1,g1,g2,g3⟩:=hs.heap.unmark h1 h2 hnm h3
   have hs1:SR w0 A0 w A1 M1 ⟨s.tmps,s.heap.set n ⟨bx.ver,bx.sz,rty bx.ty,bx.xs,bx.frz,true⟩⟩ a:=⟨hs.base,fun b hb=>⟨fun h=>(hs.outer b hb).1 (g2.less b (Nat.lt_of_lt_of_le hb hs.base.size) h),fun h=>g3 b hb ((hs.outer b hb).2 h)⟩,hs.size,fun t ht=>g2.rel (hs.tmps t ht),g1,hs.defers,hs.ev.step g2⟩
   exact xe2 hIo hI h hs1 fun v w' A' M' k1 k2=>hK v w' A' M' k1 (g2.trans k2)
 · obtain ⟨A1,hs1,hmv⟩:=hs.settle hst
   have hlen:s1.tmps.length=s.tmps.length:=hst.choose_spec.2.1
   refine xe2 hIo hI (.inl ⟨x,H',hi,rfl⟩) hs1 fun v w' A' M' k1 k2=>hK v w' A' M' ?_ (hmv.trans k2)
   have hm:=hmv.trans k2
   have hold:∀ t,t<s.tmps.length→Rel w' A' M' (a.tmps.getD t undef) (s.tmps.getD t .top):=fun t ht=>hm.rel (hs.tmps t ht)
   have hput:(a.put o.dst v).tmps.size=(putT s.tmps o.dst x).length∧∀ t,t<(putT s.tmps o.dst x).length→Rel w' A' M' ((a.put o.dst v).tmps.getD t undef) ((putT s.tmps o.dst x).getD t .top):=by
    have hk:=k1.tmps
    revert hk
    cases o.dst with
    | none=>intro _;exact ⟨hs.size,hold⟩
    | some d =>
     intro hk
     by_cases hd:d<s.tmps.length
     · refine xg7 hs.size hold ?_
       have:=hk d (by simp [putT,hlen,hd])
       have e1:(a.tmps.setIfInBounds d v).getD d undef=v:=by simp [Array.getD_eq_getD_getElem?,hs.size,hd]
       have e2:(s1.tmps.set d x).getD d .top=x:=by simp [List.getD_eq_getElem?_getD,hlen,hd]
       simp only [Act.put,putT] at this
       rw [e1,e2] at this
       exact this
     · have e1:(a.put (some d) v).tmps=a.tmps:=by
        simp only [Act.put]
        apply Array.ext_getElem?
        intro i
        rw [Array.getElem?_setIfInBounds]
        by_cases hdi:d=i
        · subst hdi
          rw [if_pos rfl,if_neg (by rw [hs.size];exact hd),Array.getElem?_eq_none (by rw [hs.size];exact Nat.le_of_not_lt hd)]
        · rw [if_neg hdi]
       have e2:putT s.tmps (some d) x=s.tmps:=List.set_eq_of_length_le (Nat.le_of_not_lt hd)
       rw [e1,e2]
       exact ⟨hs.size,hold⟩
   exact ⟨k1.base,k1.outer,hput.1,hput.2,k1.heap,k1.defers,k1.ev⟩
theorem xl9 (hIo:InvOk Inv) (hI:Inv w0) {s s':St} {o:Oper} {a:Act} (h:OpI P Inv s o s') (hs:SR w0 A0 w A M s a) {K:Act→World→Prop} {Q:Exit→Act→World→Prop} (hK:∀ a' w',SOk w0 A0 s' a' w'→K a' w'):o.wp P a w K Q :=
 xis hIo hI h hs fun _ _ A' M' h _=>hK _ _ ⟨A',M',h⟩
end
end Go.Sim
namespace Go.Sim
open Go.RowKit
def ayield (ops:Array Oper) (ts:List AV) (j:Nat):Option (Option Bool) :=
 match (ops[j]?).bind (·.dst) with
 | none=>some none
 | some d=>match ts[d]? with
  | none=>some none
  | some (.bool b)=>some (some b)
  | some (.tuple _)=>some none
  | _=>none
def awanted (ops:Array Oper) (ts:List AV) (o:Oper):Option Bool :=
 match o.guard with
 | none=>some true
 | some (j,want)=>match ayield ops ts j with
  | some y=>some (y==some want)
  | none=>none
inductive Path (Step:St→Oper→St→Prop) (ops:Array Oper):List Oper→St→St→Prop where
 | nil (s:St):Path Step ops [] s s
 | run {o:Oper} {rest:List Oper} {s s1 s2:St} (hw:awanted ops s.tmps o=some true) (h:Step s o s1) (hr:Path Step ops rest s1 s2):Path Step ops (o::rest) s s2
 | skip {o:Oper} {rest:List Oper} {s s2:St} (hw:awanted ops s.tmps o=some false) (hr:Path Step ops rest ⟨putT s.tmps o.dst (.tuple []),s.heap⟩ s2):Path Step ops (o::rest) s s2
def OpA (P:Program) (Inv:IV) (s:St) (o:Oper) (s':St):Prop:=OpF P Inv s o s'∨OpI P Inv s o s'
section
variable {P : Program} {Inv : IV} {w0 w : World} {A0 : Cx} {A : Nat → Prop} {M : Id → Option MB} {ops : Array Oper}
theorem xct {ts:List AV} {a:Act} {o:Oper} {b:Bool} (hsz:a.tmps.size=ts.length) (hr:∀ j want d,o.guard=some (j,want)→(ops[j]?).bind (·.dst)=some d→d<ts.length→Rel w A M (a.tmps.getD d undef) (ts.getD d .top)) (h:awanted ops ts o=some b) :
  Region.wanted o (yielded ops a.tmps)=b:=by
 unfold awanted at h
 unfold Region.wanted
 split at h
 · rename_i hg
   simp only [Option.some.injEq] at h
   simp [hg,h]
 · rename_i j want hg
   simp only [hg]
   split at h
   case h_2=>simp at h
   rename_i y hy
   simp only [Option.some.injEq] at h
   rw [←h]
   congr 1
   unfold ayield at hy
   unfold yielded
   split at hy
   · rename_i hd
     simp only [Option.some.injEq] at hy
     rw [hd,←hy];rfl
   · rename_i d hd
     rw [hd]
     simp only [Option.bind_some]
     by_cases hlt:d<ts.length
     · have:=hr j want d hg hd hlt
       have hlt':d<a.tmps.size:=by rw [hsz];exact hlt
       rw [List.getElem?_eq_getElem hlt] at hy
       have e:ts.getD d .top=ts[d]:=by simp [List.getD_eq_getElem?_getD,hlt]
       rw [e] at this
       have e2:a.tmps[d]?=some (a.tmps.getD d undef):=by simp [hlt']
       rw [e2]
       split at hy
       · rename_i hq;simp at hq
       · rename_i b' hq
         simp only [Option.some.injEq] at hq hy
         rw [hq] at this
         rw [this.bool_inv,←hy]
       · rename_i vs hq
         simp only [Option.some.injEq] at hq hy
         rw [hq] at this
         obtain ⟨us,hu,_⟩:=this.tuple_inv
         rw [hu,←hy]
       · simp at hy
     · rw [List.getElem?_eq_none (Nat.le_of_not_lt hlt)] at hy
       simp only [Option.some.injEq] at hy
       rw [Array.getElem?_eq_none (by rw [hsz];exact Nat.le_of_not_lt hlt),←hy]
theorem SR.skip {s:St} {a:Act} (hs:SR w0 A0 w A M s a) (d:Option Tmp):SR w0 A0 w A M ⟨putT s.tmps d (.tuple []),s.heap⟩ (a.put d undef):=by
 obtain ⟨p1,p2⟩:=xg7 (d:=d) hs.size hs.tmps (Rel.tuple (w:=w) (A:=A) (M:=M) #[] [] rfl (by simp))
 exact ⟨hs.base,hs.outer,p1,p2,hs.heap,by rw [xcc];exact hs.defers,hs.ev⟩
theorem xl7 (hIo:InvOk Inv) (hI:Inv w0) {s s':St} {o:Oper} {a:Act} (h:OpA P Inv s o s') (hs:SR w0 A0 w A M s a) {K:Act→World→Prop} {Q:Exit→Act→World→Prop} (hK:∀ a' w',SOk w0 A0 s' a' w'→K a' w'):o.wp P a w K Q:=by
 rcases h with h|h
 · exact xl8 hIo hI h hs hK
 · exact xl9 hIo hI h hs hK
theorem xlv (hIo:InvOk Inv) (hI:Inv w0) {s s':St} {o:Oper} {a:Act} (h:OpA P Inv s o s') (hs:SR w0 A0 w A M s a) {K:Act→World→Prop} {Q:Exit→Act→World→Prop}
  (hK:∀ v w' A' M',SR w0 A0 w' A' M' s' (a.put o.dst v)→Mv w A M w' A' M'→K (a.put o.dst v) w'):o.wp P a w K Q:=by
 rcases h with h|h
 · exact xir hIo hI h hs hK
 · exact xis hIo hI h hs hK
theorem xlw {s s':St} {o:Oper} (h:OpA P Inv s o s'):∃ x,s'.tmps=putT s.tmps o.dst x:=by
 rcases h with (⟨x,nb,_,rfl⟩|⟨c,g,args,args',r,_,_,_,_,rfl⟩)|((⟨x,H',_,rfl⟩|⟨c,g,args,ids,H0,r0,H0',_,_,_,_,_,rfl⟩|⟨s1,x,nb,_,_,rfl⟩)|⟨s1,⟨n,bx,_,_,_,_,rfl⟩,(⟨x,H',_,rfl⟩|⟨c,g,args,ids,H0,r0,H0',_,_,_,_,_,rfl⟩|⟨s1,x,nb,_,_,rfl⟩)⟩|⟨s1,x,H',_,_,rfl⟩)<;>exact ⟨_,rfl⟩
theorem xjI (hIo:InvOk Inv) (hI:Inv w0) {Q:Exit→Act→World→Prop} {l:List Oper} {s s':St} (hp:Path (OpA P Inv) ops l s s'):∀ {w:World} {A:Nat→Prop} {M:Id→Option MB} {a:Act},SR w0 A0 w A M s a→(∀ a' w',SOk w0 A0 s' a' w'→Q .normal a' w')→wpList P ops Q l a w:=by
 induction hp with
 | nil s=>intro w A M a hs hQ;exact hQ a w ⟨A,M,hs⟩
 | run hw h hr ih =>
  intro w A M a hs hQ
  have hwt:=xct (w:=w) (A:=A) (M:=M) hs.size (fun j want d _ _ hlt=>hs.tmps d hlt) hw
  unfold wpList
  rw [if_pos hwt]
  exact .inl (xl7 hIo hI h hs fun a' w' ⟨A',M',hs'⟩=>ih hs' hQ)
 | skip hw hr ih =>
  intro w A M a hs hQ
  have hwt:=xct (w:=w) (A:=A) (M:=M) hs.size (fun j want d _ _ hlt=>hs.tmps d hlt) hw
  unfold wpList
  rw [if_neg (by rw [hwt];simp)]
  exact ih (hs.skip _) hQ
theorem xjU (hIo:InvOk Inv) (hI:Inv w0) {Q:Exit→Act→World→Prop} {id:Nat} {s s':St} {a:Act} (hp:Path (OpA P Inv) ops ops.toList s s') (hs:SR w0 A0 w A M s a) (hQ:∀ a' w',SOk w0 A0 s' a' w'→Q .normal a' w'):(Code.region id ops false).wp P Q a w :=
 wp_region_list (xjI hIo hI hp hs hQ)
def edges (o:Oper):List Nat:=(o.after.toList.filter fun e=>Region.binds .any e).map (·.on)
def dstOf (ops:Array Oper) (i:Nat):Option Tmp:=(ops[i]?).bind (·.dst)
def floatOp (w:Bool):Op→Bool
 | .load ..=>w
 | .fieldAddr ..=>w
 | .indexAddr ..=>w
 | .move _=>true
 | .binOp ..=>true
 | .unOp ..=>true
 | .convert ..=>true
 | .extract ..=>true
 | .field ..=>true
 | _=>false
def maskOf (acc:List Nat) (o:Oper):Nat:=(edges o).foldl (fun s e=>s ||| 2 ^ e ||| acc.getD e 0) 0
def masksAux:List Oper→List Nat→List Nat
 | [],acc=>acc
 | o::l,acc=>masksAux l (acc++[maskOf acc o])
def masks (ops:Array Oper):List Nat:=masksAux ops.toList []
def isFloat (w:Bool) (ops:Array Oper) (m i:Nat):Bool:=match ops[i]? with
 | some o=>floatOp w o.op&&(o.guard.isNone&&(List.range ops.size).all fun j=>decide (j<m) || ((match o.dst with|some d=>dstOf ops j != some d|none=>true)&&(o.looksAt ops).all fun t=>dstOf ops j != some t))
 | none=>false
def regOk (w:Bool) (ops:Array Oper) (m:Nat):Bool :=
 (List.range ops.size).all fun j =>
  match ops[j]? with
  | none=>true
  | some o =>
   (edges o).all (fun i=>decide (i<j)) &&
   (
    if j<m then
     (match o.dst with|some d=>(List.range m).all fun i=>i==j || dstOf ops i != some d|none=>true) &&
     (o.looksAt ops).all fun t=>(List.range m).all fun i=>dstOf ops i != some t || (edges o).contains i
    else (List.range j).all fun i=>((masks ops).getD j 0).testBit i || (decide (i<m)&&isFloat w ops m i))
theorem xdd {w:Bool} {m:Nat} (h:regOk w ops m=true) {j:Nat} {o:Oper} (ho:ops[j]?=some o) :
  (∀ i,i∈edges o→i<j) ∧
  (j<m→(∀ d,o.dst=some d→∀ i,i<m→dstOf ops i=some d→i=j)∧∀ t,t∈o.looksAt ops→∀ i,i<m→dstOf ops i=some t→i∈edges o) ∧
  (m≤j→∀ i,i<j→((masks ops).getD j 0).testBit i=true∨(i<m∧isFloat w ops m i=true)):=by
 have hj:j<ops.size:=by
  rcases Nat.lt_or_ge j ops.size with h'|h'
  · exact h'
  · rw [Array.getElem?_eq_none h'] at ho;simp at ho
 unfold regOk at h
 rw [List.all_eq_true] at h
 have:=h j (List.mem_range.2 hj)
 simp only [ho,Bool.and_eq_true,List.all_eq_true,decide_eq_true_eq] at this
 obtain ⟨h1,h2⟩:=this
 refine ⟨h1,fun hjm=>?_,fun hmj i hi=>?_⟩
 · rw [if_pos hjm] at h2
   simp only [Bool.and_eq_true,List.all_eq_true,Bool.or_eq_true,List.mem_range,bne_iff_ne,ne_eq,List.contains_iff_mem] at h2
   obtain ⟨h3,h4⟩:=h2
   refine ⟨fun d hd i hi he=>?_,fun t ht i hi he=>?_⟩
   · rw [hd] at h3
     simp only [List.all_eq_true,List.mem_range,Bool.or_eq_true,beq_iff_eq,bne_iff_ne,ne_eq] at h3
     rcases h3 i hi with h|h
     · exact h
     · exact absurd he h
   · rcases h4 t ht i hi with h|h
     · exact absurd he h
     · exact h
 · rw [if_neg (by omega)] at h2
   simp only [List.all_eq_true,List.mem_range,Bool.or_eq_true,Bool.and_eq_true,decide_eq_true_eq] at h2
   exact h2 i hi
theorem xb3 {w:Bool} {m i:Nat} (h:isFloat w ops m i=true):∃ o,ops[i]?=some o∧floatOp w o.op=true∧o.guard=none∧∀ j,m≤j→j<ops.size→(∀ d,o.dst=some d→dstOf ops j≠some d)∧∀ t,t∈o.looksAt ops→dstOf ops j≠some t:=by
 unfold isFloat at h
 split at h
 case h_2=>simp at h
 rename_i o ho
 simp only [Bool.and_eq_true,List.all_eq_true,List.mem_range,Bool.or_eq_true,decide_eq_true_eq,bne_iff_ne,ne_eq,Option.isNone_iff_eq_none] at h
 obtain ⟨h1,h2,h3⟩:=h
 refine ⟨o,ho,h1,h2,fun j hm hj=>?_⟩
 rcases h3 j hj with h|⟨h4,h5⟩
 · omega
 · refine ⟨fun d hd=>?_,fun t ht=>h5 t ht⟩
   rw [hd] at h4
   simpa using h4
theorem xhn {acc:List Nat} {i:Nat}:∀ (l:List Nat) (z:Nat),(l.foldl (fun s e=>s ||| 2 ^ e ||| acc.getD e 0) z).testBit i=true→z.testBit i=true∨∃ e,e∈l∧(i=e∨(acc.getD e 0).testBit i=true)
 | [],z,h=>.inl h
 | a::l,z,h=>by
  simp only [List.foldl_cons] at h
  rcases xhn l _ h with h|⟨e,he,h⟩
  · simp only [Nat.testBit_or,Bool.or_eq_true,Nat.testBit_two_pow,decide_eq_true_eq] at h
    rcases h with (h|h)|h
    · exact .inl h
    · exact .inr ⟨a,by simp,.inl h.symm⟩
    · exact .inr ⟨a,by simp,.inr h⟩
  · exact .inr ⟨e,by simp [he],h⟩
theorem xc2:∀ (l:List Oper) (acc:List Nat) (j:Nat),j<acc.length→(masksAux l acc).getD j 0=acc.getD j 0
 | [],acc,j,_=>rfl
 | o::l,acc,j,hj=>by
  simp only [masksAux]
  rw [xc2 l _ j (by simp;omega)]
  simp [List.getD_eq_getElem?_getD,List.getElem?_append,hj]
theorem xfF:∀ (l:List Oper) (acc:List Nat) (j:Nat) (o:Oper),l[j]?=some o→∃ acc',(masksAux l acc).getD (acc.length+j) 0=maskOf acc' o∧acc'.length=acc.length+j∧∀ e,e<acc'.length→acc'.getD e 0=(masksAux l acc).getD e 0
 | [],acc,j,o,h=>by simp at h
 | o'::l,acc,0,o,h=>by
  simp only [List.getElem?_cons_zero,Option.some.injEq] at h
  subst h
  refine ⟨acc,?_,rfl,fun e he=>(xc2 _ acc e he).symm⟩
  simp only [masksAux]
  rw [xc2 l _ _ (by simp)]
  simp [List.getD_eq_getElem?_getD]
 | o'::l,acc,j+1,o,h=>by
  obtain ⟨acc',h1,h2,h3⟩:=xfF l (acc++[maskOf acc o']) j o (by simpa using h)
  simp only [List.length_append,List.length_cons,List.length_nil] at h1 h2
  refine ⟨acc',?_,by omega,h3⟩
  simp only [masksAux]
  rw [←h1];congr 1;omega
theorem xjh {L:Nat→Prop} (hcl:∀ j o,ops[j]?=some o→L j→∀ e,e∈edges o→L e):∀ (j:Nat) (o:Oper),ops[j]?=some o→(∀ e,e∈edges o→L e)→∀ i,((masks ops).getD j 0).testBit i=true→L i:=by
 intro j
 induction j using Nat.strongRecOn with
 | _ j ih =>
  intro o ho he i hi
  obtain ⟨acc',h1,h2,h3⟩:=xfF ops.toList [] j o (by simpa using ho)
  simp only [List.length_nil,Nat.zero_add] at h1 h2
  have h1':(masks ops).getD j 0=maskOf acc' o:=h1
  rw [h1'] at hi
  rcases xhn _ _ hi with h|⟨e,hm,h⟩
  · simp at h
  · rcases h with rfl|h
    · exact he i hm
    · by_cases hlt:e<j
      · rw [h3 e (by omega)] at h
        have heo:e<ops.size:=by
         have:j<ops.size:=by
          rcases Nat.lt_or_ge j ops.size with h'|h'
          · exact h'
          · rw [Array.getElem?_eq_none h'] at ho;simp at ho
         omega
        have hoe:ops[e]?=some ops[e]:=by simp [heo]
        exact ih e hlt _ hoe (hcl e _ hoe (he e hm)) i h
      · have:acc'.getD e 0=0:=by simp [List.getD_eq_getElem?_getD,List.getElem?_eq_none (show acc'.length≤e by omega)]
        rw [this] at h;simp at h
def outT (ops:Array Oper) (m mk:Nat):List Nat:=(List.range m).filterMap fun i=>match mk.testBit i with
 | true=>none
 | false=>dstOf ops i
def maskT:List Nat→List AV→List AV
 | [],ts=>ts
 | d::ds,ts=>maskT ds (ts.set d .top)
def restT:List Nat→List AV→List AV→List AV
 | [],_,ts=>ts
 | d::ds,old,ts=>restT ds old (ts.set d (old.getD d .top))
theorem xcz:∀ (ml:List Nat) (ts:List AV),(maskT ml ts).length=ts.length
 | [],ts=>rfl
 | d::ds,ts=>by simp only [maskT];rw [xcz ds];simp
theorem xb8:∀ (ml:List Nat) (old ts:List AV),(restT ml old ts).length=ts.length
 | [],_,ts=>rfl
 | d::ds,old,ts=>by simp only [restT];rw [xb8 ds];simp
theorem xbf {ts:List AV} {d t:Nat} {x:AV} (h:d≠t):(ts.set d x).getD t .top=ts.getD t .top:=by
 simp [List.getD_eq_getElem?_getD,List.getElem?_set_ne h]
theorem xbe {ts:List AV} {t:Nat} {x:AV} (h:t<ts.length):(ts.set t x).getD t .top=x:=by
 simp [List.getD_eq_getElem?_getD,h]
theorem xfi {ts:List AV} {t:Nat} (h:ts.length≤t):ts.getD t .top=.top:=by
 simp [List.getD_eq_getElem?_getD,List.getElem?_eq_none h]
theorem xdV:∀ {ml:List Nat} {ts:List AV} {t:Nat},t∉ml→(maskT ml ts).getD t .top=ts.getD t .top
 | [],ts,t,_=>rfl
 | d::ds,ts,t,h=>by
  simp only [List.mem_cons,not_or] at h
  simp only [maskT]
  rw [xdV h.2,xbf (fun e=>h.1 e.symm)]
theorem xhw:∀ {ml:List Nat} {ts:List AV} {t:Nat},ts.getD t .top=.top→(maskT ml ts).getD t .top=.top
 | [],ts,t,h=>h
 | d::ds,ts,t,h=>by
  simp only [maskT]
  refine xhw ?_
  by_cases hd:d=t
  · subst hd
    by_cases hlt:d<ts.length
    · exact xbe hlt
    · simp [List.getD_eq_getElem?_getD,List.getElem?_eq_none (show (ts.set d .top).length≤d by simp;omega)]
  · rw [xbf hd];exact h
theorem xip:∀ {ml:List Nat} {ts:List AV} {t:Nat},t∈ml→(maskT ml ts).getD t .top=.top
 | d::ds,ts,t,h=>by
  simp only [maskT]
  rcases List.mem_cons.1 h with rfl|h
  · refine xhw ?_
    by_cases hlt:t<ts.length
    · exact xbe hlt
    · simp [List.getD_eq_getElem?_getD,List.getElem?_eq_none (show (ts.set t .top).length≤t by simp;omega)]
  · exact xip h
theorem xcS:∀ {ml:List Nat} {old ts:List AV} {t:Nat},t∉ml→(restT ml old ts).getD t .top=ts.getD t .top
 | [],_,ts,t,_=>rfl
 | d::ds,old,ts,t,h=>by
  simp only [List.mem_cons,not_or] at h
  simp only [restT]
  rw [xcS h.2,xbf (fun e=>h.1 e.symm)]
theorem xf8:∀ {ml:List Nat} {old ts:List AV} {t:Nat},t∈ml→t<ts.length→(restT ml old ts).getD t .top=old.getD t .top
 | d::ds,old,ts,t,h,hlt=>by
  simp only [restT]
  by_cases hin:t∈ds
  · exact xf8 hin (by simpa using hlt)
  · rcases List.mem_cons.1 h with rfl|h
    · rw [xcS hin,xbe hlt]
    · exact absurd h hin
inductive TPath (P:Program) (Inv:IV) (ops:Array Oper) (m:Nat):Nat→List Oper→St→St→Prop where
 | nil (k:Nat) (s:St):TPath P Inv ops m k [] s s
 | run {k:Nat} {o:Oper} {rest:List Oper} {s s1 s2:St} (ml:List Nat) (hml:ml=outT ops m ((masks ops).getD k 0)) (hw:awanted ops (maskT ml s.tmps) o=some true) (h:OpA P Inv ⟨maskT ml s.tmps,s.heap⟩ o s1)
  (hr:TPath P Inv ops m (k+1) rest ⟨restT ml s.tmps s1.tmps,s1.heap⟩ s2):TPath P Inv ops m k (o::rest) s s2
 | skip {k:Nat} {o:Oper} {rest:List Oper} {s s2:St} (ml:List Nat) (hml:ml=outT ops m ((masks ops).getD k 0)) (hw:awanted ops (maskT ml s.tmps) o=some false)
  (hr:TPath P Inv ops m (k+1) rest ⟨putT s.tmps o.dst (.tuple []),s.heap⟩ s2):TPath P Inv ops m k (o::rest) s s2
def ptrOk (ρ:Operand→AV):Op→Bool
 | .load _ a=>match ρ a with
  | .eptr ..=>true
  | _=>false
 | .fieldAddr _ x _=>match ρ x with
  | .eptr ..=>true
  | _=>false
 | .indexAddr _ x _=>match ρ x with
  | .eptr ..=>true
  | .list ..=>true
  | _=>false
 | _=>true
theorem xiV {ρ ρ':Operand→AV} {op:Op} (h:∀ a,a∈op.operands.toList→ρ' a=ρ a):ptrOk ρ' op=ptrOk ρ op:=by
 cases op with
 | load t a=>simp only [ptrOk,h a (by simp [Op.operands])]
 | fieldAddr t x f=>simp only [ptrOk,h x (by simp [Op.operands])]
 | indexAddr t x ix=>simp only [ptrOk,h x (by simp [Op.operands])]
 | _=>rfl
theorem xlB {ρ:Operand→AV} {op:Op} (h:floatOp false op=true):ptrOk ρ op=true:=by
 cases op<;>first|rfl|simp [floatOp] at h
theorem xc9 (id:Id) (ver:Nat):getBox [] id ver=none:=by
 unfold getBox
 cases id<;>simp [getB]
theorem xhF {P:Program} {ρ:Operand→AV} {n:Nat} {op:Op} {r:AV×Option Box} (h:fop P ρ [] n op=some r):ptrOk ρ op=true:=by
 cases op with
 | load t a =>
  simp only [fop] at h
  split at h
  case h_2=>simp at h
  split at h
  case h_2=>simp at h
  rename_i x hx
  unfold absLoadAt at hx
  simp only [ptrOk]
  cases hr:ρ a with
  | eptr=>rfl
  | own id ver i j=>rw [hr] at hx;simp [xc9] at hx
  | _=>rw [hr] at hx;simp at hx
 | fieldAddr t x f =>
  simp only [fop] at h
  split at h
  case h_2=>simp at h
  rename_i r hx
  unfold absFieldAddr at hx
  simp only [ptrOk]
  cases hr:ρ x with
  | eptr=>rfl
  | own id ver i j=>rw [hr] at hx;simp only [xc9] at hx;(repeat' split at hx)<;>simp at hx
  | _=>rw [hr] at hx;simp only [] at hx;(repeat' split at hx)<;>simp at hx
 | indexAddr t x ix =>
  simp only [fop] at h
  split at h
  case h_2=>simp at h
  rename_i r hx
  unfold absIndexAddr at hx
  simp only [ptrOk]
  cases hr:ρ x with
  | eptr=>rfl
  | list=>rfl
  | own id ver i j=>rw [hr] at hx;simp only [xc9] at hx;(repeat' split at hx)<;>simp_all
  | osl id ver i j=>rw [hr] at hx;simp only [xc9] at hx;(repeat' split at hx)<;>simp_all
  | _=>rw [hr] at hx;(repeat' split at hx)<;>simp_all
 | _=>rfl
theorem xeW {P:Program} {ρ ρ':Operand→AV} {H H':List Box} {n n':Nat} {op:Op} {x:AV} {nb:Option Box} {wf:Bool} (hf:floatOp wf op=true) (hpk:ptrOk ρ op=true) (hρ:∀ a,a∈op.operands.toList→ρ' a=ρ a) (h:fop P ρ H n op=some (x,nb)):nb=none∧fop P ρ' H' n' op=some (x,none):=by
 cases op with
 | load t a =>
  have e:=hρ a (by simp [Op.operands])
  simp only [fop] at h ⊢
  rw [e]
  simp only [ptrOk] at hpk
  cases hr:ρ a with
  | eptr sz xs i j =>
   rw [hr] at h
   split at h
   case h_2=>simp at h
   rename_i ti hti
   simp only [absLoadAt] at h ⊢
   split at h
   case h_2=>simp at h
   rename_i y hy
   simp only [Option.some.injEq,Prod.mk.injEq] at h;obtain ⟨rfl,rfl⟩:=h
   simp only [hy];exact ⟨trivial,trivial⟩
  | _=>rw [hr] at hpk;simp at hpk
 | fieldAddr t x' f =>
  have e:=hρ x' (by simp [Op.operands])
  simp only [fop] at h ⊢
  rw [e]
  simp only [ptrOk] at hpk
  cases hr:ρ x' with
  | eptr sz xs i j =>
   rw [hr] at h
   split at h
   case h_2=>simp at h
   rename_i y hy
   have hy':absFieldAddr P H' t (.eptr sz xs i j) f=some y:=by
    rw [←hy];rfl
   simp only [Option.some.injEq,Prod.mk.injEq] at h;obtain ⟨rfl,rfl⟩:=h
   simp only [hy'];exact ⟨trivial,trivial⟩
  | _=>rw [hr] at hpk;simp at hpk
 | indexAddr t x' ix =>
  have e:=hρ x' (by simp [Op.operands])
  have e2:=hρ ix (by simp [Op.operands])
  simp only [fop] at h ⊢
  rw [e,e2]
  simp only [ptrOk] at hpk
  cases hr:ρ x' with
  | eptr sz xs i j =>
   rw [hr] at h
   split at h
   case h_2=>simp at h
   rename_i y hy
   have hy':absIndexAddr P H' t (.eptr sz xs i j) (ρ ix)=some y:=by
    rw [←hy];unfold absIndexAddr
    cases tinfo P t with
    | none=>rfl
    | some ti =>
     cases ρ ix with
     | int k n=>simp only [];cases ti.d<;>rfl
     | _=>rfl
   simp only [Option.some.injEq,Prod.mk.injEq] at h;obtain ⟨rfl,rfl⟩:=h
   simp only [hy'];exact ⟨trivial,trivial⟩
  | list sz xs =>
   rw [hr] at h
   split at h
   case h_2=>simp at h
   rename_i y hy
   have hy':absIndexAddr P H' t (.list sz xs) (ρ ix)=some y:=by
    rw [←hy];unfold absIndexAddr
    cases tinfo P t with
    | none=>rfl
    | some ti =>
     cases ρ ix with
     | int k n=>simp only [];cases ti.d<;>rfl
     | _=>rfl
   simp only [Option.some.injEq,Prod.mk.injEq] at h;obtain ⟨rfl,rfl⟩:=h
   simp only [hy'];exact ⟨trivial,trivial⟩
  | _=>rw [hr] at hpk;simp at hpk
 | move x' =>
  have e:=hρ x' (by simp [Op.operands])
  simp only [fop] at h ⊢
  rw [e]
  simp only [Option.some.injEq,Prod.mk.injEq] at h;obtain ⟨rfl,rfl⟩:=h
  exact ⟨rfl,rfl⟩
 | binOp b t x' y' t' =>
  have e1:=hρ x' (by simp [Op.operands])
  have e2:=hρ y' (by simp [Op.operands])
  simp only [fop] at h ⊢
  rw [e1,e2]
  split at h
  · rename_i r hr
    simp only [Option.some.injEq,Prod.mk.injEq] at h;obtain ⟨rfl,rfl⟩:=h
    simp only [hr];exact ⟨trivial,trivial⟩
  · simp at h
 | unOp u t x' =>
  have e:=hρ x' (by simp [Op.operands])
  simp only [fop] at h ⊢
  rw [e]
  split at h
  · rename_i r hr
    simp only [Option.some.injEq,Prod.mk.injEq] at h;obtain ⟨rfl,rfl⟩:=h
    simp only [hr];exact ⟨trivial,trivial⟩
  · simp at h
 | convert t t' x' =>
  have e:=hρ x' (by simp [Op.operands])
  simp only [fop] at h ⊢
  rw [e]
  split at h
  · rename_i r hr
    simp only [Option.some.injEq,Prod.mk.injEq] at h;obtain ⟨rfl,rfl⟩:=h
    simp only [hr];exact ⟨trivial,trivial⟩
  · simp at h
 | extract x' i =>
  have e:=hρ x' (by simp [Op.operands])
  simp only [fop] at h ⊢
  rw [e]
  split at h
  · rename_i vs hvs
    split at h
    · rename_i v hv
      simp only [Option.some.injEq,Prod.mk.injEq] at h;obtain ⟨rfl,rfl⟩:=h
      simp only [hvs,hv];exact ⟨trivial,trivial⟩
    · simp at h
  · simp at h
 | field t x' f =>
  have e:=hρ x' (by simp [Op.operands])
  simp only [fop] at h ⊢
  rw [e]
  split at h
  · rename_i r hr
    simp only [Option.some.injEq,Prod.mk.injEq] at h;obtain ⟨rfl,rfl⟩:=h
    simp only [hr];exact ⟨trivial,trivial⟩
  · simp at h
 | _=>simp [floatOp] at hf
theorem xiU {Step:St→Oper→St→Prop} {l:List Oper} {s s':St} (hp:Path Step ops l s s') :
  ∃ st:Nat→St,st 0=s∧st l.length=s'∧∀ j o,l[j]?=some o→(awanted ops (st j).tmps o=some true∧Step (st j) o (st (j+1)))∨(awanted ops (st j).tmps o=some false∧st (j+1)=⟨putT (st j).tmps o.dst (.tuple []),(st j).heap⟩):=by
 induction hp with
 | nil s=>exact ⟨fun _=>s,rfl,rfl,fun j o h=>by simp at h⟩
 | @run o rest s s1 s2 hw h hr ih =>
  obtain ⟨st,h0,h1,h2⟩:=ih
  refine ⟨fun k=>match k with|0=>s|k+1=>st k,rfl,h1,fun j o' ho'=>?_⟩
  cases j with
  | zero=>simp only [List.getElem?_cons_zero,Option.some.injEq] at ho';subst ho';left;exact ⟨hw,by show Step s o (st 0);rw [h0];exact h⟩
  | succ j=>exact h2 j o' (by simpa using ho')
 | @skip o rest s s2 hw hr ih =>
  obtain ⟨st,h0,h1,h2⟩:=ih
  refine ⟨fun k=>match k with|0=>s|k+1=>st k,rfl,h1,fun j o' ho'=>?_⟩
  cases j with
  | zero=>simp only [List.getElem?_cons_zero,Option.some.injEq] at ho';subst ho';right;exact ⟨hw,h0⟩
  | succ j=>exact h2 j o' (by simpa using ho')
theorem xcC {ts:List AV} {d:Option Tmp} {x:AV} {t:Nat} (h:d≠some t):(putT ts d x).getD t .top=ts.getD t .top:=by
 cases d with
 | none=>rfl
 | some d =>
  have hne:d≠t:=fun e=>h (by rw [e])
  simp [putT,List.getD_eq_getElem?_getD,List.getElem?_set_ne hne]
theorem xdw {ts:List AV} {x:AV} {t:Nat} (h:t<ts.length):(putT ts (some t) x).getD t .top=x:=by
 simp [putT,List.getD_eq_getElem?_getD,h]
theorem xck {ts:List AV} {d:Option Tmp} {x:AV}:(putT ts d x).length=ts.length:=by cases d<;>simp [putT]
theorem xkM {l:List Nat} {p q:Nat→Bool} (h:∀ x,x∈l→p x=true→q x=true) {y:Nat} (hy:y∈l) (h1:p y=false) (h2:q y=true):l.countP p<l.countP q:=by
 induction l with
 | nil=>simp at hy
 | cons x l ih =>
  have hle:l.countP p≤l.countP q:=List.countP_mono_left fun z hz=>h z (by simp [hz])
  rcases List.mem_cons.1 hy with rfl|hy'
  · simp only [List.countP_cons,h1,h2,if_true,Bool.false_eq_true,if_false];omega
  · have:=ih (fun z hz=>h z (by simp [hz])) hy'
    simp only [List.countP_cons]
    have hx:=h x (by simp)
    cases hp:p x<;>cases hq:q x<;>simp_all<;>omega
theorem xfH {wf:Bool} {m:Nat} (hok:regOk wf ops m=true) {listed:Array Bool} (hsz:listed.size=ops.size) {j:Nat} (hj:j<ops.size) (hn:listed.getD j false=false) (hall:∀ i,i<j→listed.getD i false=true):j∈Region.ready .any ops listed:=by
 rw [mem_ready]
 have hjl:j<listed.size:=by omega
 refine ⟨by simpa [hjl] using hn,ops[j],by simp [hj],fun e he hb=>?_⟩
 have:=(xdd hok (j:=j) (o:=ops[j]) (by simp [hj])).1 e.on (List.mem_map.2 ⟨e,List.mem_filter.2 ⟨Array.mem_toList_iff.2 he,hb⟩,rfl⟩)
 exact hall _ this
theorem xdk {n:Nat} {p:Nat→Bool}:∀ k,k≤n→(∀ i,i<k→p i=true)→(∀ i,i<n→p i=true)∨∃ j,j<n∧p j=false∧∀ i,i<j→p i=true:=by
 intro k hk h
 induction hd:n - k generalizing k with
 | zero=>exact .inl fun i hi=>h i (by omega)
 | succ d ih =>
  cases hp:p k with
  | false=>exact .inr ⟨k,by omega,hp,h⟩
  | true=>exact ih (k+1) (by omega) (fun i hi=>by rcases Nat.lt_or_eq_of_le (Nat.le_of_lt_succ hi) with h'|rfl;exact h i h';exact hp) (by omega)
def unl (n:Nat) (listed:Array Bool):Nat:=(List.range n).countP fun i=>!listed.getD i false
theorem xjo {n:Nat} {listed:Array Bool} (hsz:listed.size=n) {j:Nat} (hj:j<n) (hn:listed.getD j false=false):unl n (listed.setIfInBounds j true)<unl n listed:=by
 refine xkM (fun x hx hp=>?_) (List.mem_range.2 hj) ?_ (by simp [hn])
 · by_cases hxj:j=x
   · subst hxj;have:j<listed.size:=by omega
     simp [this] at hp
   · simpa [Array.getElem?_setIfInBounds_ne hxj] using hp
 · have:j<listed.size:=by omega
   simp [this]
structure DB (P:Program) (ops:Array Oper) (m:Nat) (s:St) (w0:World) (A0:Cx) (listed:Array Bool) (w:World) (A:Nat→Prop) (M:Id→Option MB) (a:Act):Prop where
 base:Below w0.heap.size w0 w
 outer:∀ b,b<w0.heap.size→(A b↔A0.av b)
 size:a.tmps.size=s.tmps.length
 tmps:∀ t,t<s.tmps.length→(∀ i,i<m→dstOf ops i=some t→listed.getD i false=true)→Rel w A M (a.tmps.getD t undef) (s.tmps.getD t .top)
 heap:HR w A M w0.heap.size s.heap
 defers:a.defers=[]
 ev:Ev A0 w A M
 later:∀ i o,i<m→ops[i]?=some o→listed.getD i false=false→∃ x,fop P s.eval [] 0 o.op=some (x,none)∧∀ d,o.dst=some d→d<s.tmps.length→s.tmps.getD d .top=x
theorem xc1 {o:Oper} {t:Tmp} (h:Operand.tmp t∈o.op.operands.toList):t∈o.looksAt ops:=by
 unfold Oper.looksAt
 exact List.mem_append.2 (.inl (List.mem_filterMap.2 ⟨.tmp t,h,rfl⟩))
theorem xfE {o:Oper} {j:Nat} {want:Bool} {d:Tmp} (hg:o.guard=some (j,want)) (hd:(ops[j]?).bind (·.dst)=some d):d∈o.looksAt ops:=by
 unfold Oper.looksAt
 refine List.mem_append.2 (.inr ?_)
 simp [hg,hd]
theorem xgl {s s':St} {o:Oper} (h:∀ t,t∈o.looksAt ops→s'.tmps.getD t .top=s.tmps.getD t .top):∀ y,y∈o.op.operands.toList→s'.eval y=s.eval y:=fun y hy=>by
 cases y with
 | tmp t=>exact h t (xc1 hy)
 | const v=>rfl
 | global g=>rfl
 | func f=>rfl
theorem xj1 (hIo:InvOk Inv) (hI:Inv w0) {Q:Exit→Act→World→Prop} {wf:Bool} {m:Nat} (hok:regOk wf ops m=true) {s2:St} (hQ:∀ a' w',SOk w0 A0 s2 a' w'→Q .normal a' w') :
  ∀ (fuel k:Nat) (listed:Array Bool) (s:St) (w:World) (A:Nat→Prop) (M:Id→Option MB) (a:Act),m≤k→k≤ops.size→listed.size=ops.size →
   (∀ i,m≤i→i<k→listed.getD i false=true)→(∀ i,k≤i→i<ops.size→listed.getD i false=false)→(∀ i,i<m→listed.getD i false=false→isFloat wf ops m i=true) →
   (∀ j o,ops[j]?=some o→listed.getD j false=true→∀ e,e∈edges o→listed.getD e false=true) →
   unl ops.size listed≤fuel→TPath P Inv ops m k (ops.toList.drop k) s s2→DB P ops m s w0 A0 listed w A M a→wpAny P .any ops Q fuel listed a w:=by
 intro fuel
 induction fuel with
 | zero =>
  intro k listed s w A M a hm hk hsz h1 h2 h3 hcl hf hp hd
  have hall:∀ i,i<ops.size→listed.getD i false=true:=by
   intro i hi
   cases hl:listed.getD i false with
   | true=>rfl
   | false =>
    have:0<unl ops.size listed:=List.countP_pos_iff.2 ⟨i,List.mem_range.2 hi,by simp only [hl];rfl⟩
    omega
  have hkn:k=ops.size:=by
   rcases Nat.lt_or_eq_of_le hk with h|h
   · have:=h2 k (Nat.le_refl _) h;rw [hall k h] at this;simp at this
   · exact h
  subst hkn
  have hnil:ops.toList.drop ops.size=[]:=List.drop_eq_nil_of_le (by simp)
  rw [hnil] at hp
  cases hp
  refine ⟨?_,hQ a w ⟨A,M,hd.base,hd.outer,hd.size,fun t ht=>hd.tmps t ht fun i hi _=>hall i (by omega),hd.heap,hd.defers,hd.ev⟩⟩
  rw [List.eq_nil_iff_forall_not_mem]
  intro i hi
  obtain ⟨hu,o,ho,_⟩:=mem_ready.1 hi
  have hi':i<ops.size:=by
   rcases Nat.lt_or_ge i ops.size with h'|h'
   · exact h'
   · rw [Array.getElem?_eq_none h'] at ho;simp at ho
  have:=hall i hi'
  have hil:i<listed.size:=by omega
  simp [hil] at hu this
  rw [this] at hu;simp at hu
 | succ fuel ih =>
  intro k listed s w A M a hm hk hsz h1 h2 h3 hcl hf hp hd
  rcases xdk (n:=ops.size) (p:=fun i=>listed.getD i false) 0 (Nat.zero_le _) (fun i hi=>by omega) with hall|⟨j0,hj0,hn0,hbef⟩
  · have hkn:k=ops.size:=by
     rcases Nat.lt_or_eq_of_le hk with h|h
     · have:=h2 k (Nat.le_refl _) h;have h':listed.getD k false=true:=hall k h;rw [h'] at this;simp at this
     · exact h
    subst hkn
    have hnil:ops.toList.drop ops.size=[]:=List.drop_eq_nil_of_le (by simp)
    rw [hnil] at hp
    cases hp
    refine ⟨fun _=>hQ a w ⟨A,M,hd.base,hd.outer,hd.size,fun t ht=>hd.tmps t ht fun i hi _=>hall i (by omega),hd.heap,hd.defers,hd.ev⟩,fun i hi=>?_⟩
    exfalso
    obtain ⟨hu,o,ho,_⟩:=mem_ready.1 hi
    have hi':i<ops.size:=by
     rcases Nat.lt_or_ge i ops.size with h'|h'
     · exact h'
     · rw [Array.getElem?_eq_none h'] at ho;simp at ho
    have:=hall i hi'
    have hil:i<listed.size:=by omega
    simp [hil] at hu this
    rw [this] at hu;simp at hu
  have hrdy:=xfH hok hsz hj0 hn0 hbef
  refine ⟨fun h=>by rw [h] at hrdy;simp at hrdy,fun j hj=>?_⟩
  obtain ⟨hu,o,ho,hall⟩:=mem_ready.1 hj
  have hjs:j<ops.size:=by
   rcases Nat.lt_or_ge j ops.size with h'|h'
   · exact h'
   · rw [Array.getElem?_eq_none h'] at ho;simp at ho
  have hjl:j<listed.size:=by omega
  have hun:listed.getD j false=false:=by simpa [hjl] using hu
  have hedge:∀ i,i∈edges o→listed.getD i false=true:=by
   intro i hi
   obtain ⟨e,he,hek⟩:=List.mem_map.1 hi
   obtain ⟨he1,he2⟩:=List.mem_filter.1 he
   have:=hall e (Array.mem_toList_iff.1 he1) he2
   rwa [hek] at this
  have hmk:=xjh (L:=fun i=>listed.getD i false=true) hcl j o ho hedge
  obtain ⟨hE1,hE2,hE3⟩:=xdd hok ho
  have hlist':∀ i,(listed.setIfInBounds j true).getD i false=true↔(i=j∨listed.getD i false=true):=by
   intro i
   by_cases hij:j=i
   · subst hij;simp [hjl]
   · have:¬ i=j:=fun e=>hij e.symm
     simp [Array.getElem?_setIfInBounds_ne hij,this]
  have hlistf:∀ i,(listed.setIfInBounds j true).getD i false=false→i≠j∧listed.getD i false=false:=by
   intro i hi
   by_cases hij:j=i
   · subst hij;simp [hjl] at hi
   · exact ⟨fun e=>hij e.symm,by simpa [Array.getElem?_setIfInBounds_ne hij] using hi⟩
  have hfuel':unl ops.size (listed.setIfInBounds j true)≤fuel:=by
   have:=xjo hsz hjs hun
   omega
  have hcl':∀ j' o',ops[j']?=some o'→(listed.setIfInBounds j true).getD j' false=true→∀ e,e∈edges o'→(listed.setIfInBounds j true).getD e false=true:=by
   intro j' o' ho' hl e he
   rcases (hlist' j').1 hl with rfl|hl
   · rw [ho] at ho';simp only [Option.some.injEq] at ho';subst ho'
     exact (hlist' e).2 (.inr (hedge e he))
   · exact (hlist' e).2 (.inr (hcl j' o' ho' hl e he))
  have hnotin:∀ i,(listed.setIfInBounds j true).getD i false=false↔¬ (i=j∨listed.getD i false=true):=by
   intro i
   rw [←hlist']
   cases (listed.setIfInBounds j true).getD i false<;>simp
  rcases Nat.lt_or_ge j m with hjm|hjm
  ·
   obtain ⟨o',ho',hfl,hgu,htail⟩:=xb3 (h3 j hjm hun)
   rw [ho] at ho';simp only [Option.some.injEq] at ho';subst ho'
   obtain ⟨hsingle,hlook⟩:=hE2 hjm
   obtain ⟨x,hfx,hdx⟩:=hd.later j o hjm ho hun
   have hseen:∀ y,y∈o.op.operands.toList→Rel w A M (a.eval y) (s.eval y):=fun y hy=>by
    cases y with
    | tmp t =>
     by_cases htl:t<s.tmps.length
     · exact hd.tmps t htl fun i hi he=>hedge i (hlook t (xc1 hy) i hi he)
     · have:s.eval (.tmp t)=.top:=by simp [St.eval,List.getD_eq_getElem?_getD,List.getElem?_eq_none (Nat.le_of_not_lt htl)]
       rw [this];exact .top _
    | const v=>exact xaG w A M v
    | global g=>exact .gptr g
    | func f=>exact .func f #[] [] rfl (by simp)
   have hfx':=(xeW (ρ':=s.eval) (H':=s.heap) (n':=s.heap.length) hfl (xhF hfx) (fun _ _=>rfl) hfx).2
   have hn':Free M s.heap.length:=hd.heap.free_of_length (Nat.le_refl _)
   obtain ⟨v,w',A',M',hrun,hbel,hext,hA,hM,hR',hr⟩:=xhp (o:=o) (ρc:=a.eval) hfx' hseen hd.heap hd.base.size hn' (by simp)
   have hmv:Mv w A M w' A' M':=⟨hbel.size,fun b hb _=>hbel.block b hb,fun b hb h=>(hA b hb).1 h,fun b hb h _=>(hA b hb).2 h,hext,.of_new hbel fun id mm hmm=>by
    by_cases hid:id=.b s.heap.length
    · subst hid;exact hM.2 mm hmm
    · rw [hM.1 id hid] at hmm;exact .inl hmm⟩
   unfold wpOp
   simp only [ho]
   have hwt:Region.wanted o (yielded ops a.tmps)=true:=by simp [Region.wanted,hgu]
   rw [if_pos hwt]
   left
   unfold Oper.wp
   rw [hrun]
   refine ih k (listed.setIfInBounds j true) s w' A' M' (a.put o.dst v) hm hk (by simp [hsz]) (fun i g1 g2=>(hlist' i).2 (.inr (h1 i g1 g2))) (fun i g1 g2=>(hnotin i).2 (by rw [h2 i g1 g2];simp;omega)) (fun i g1 g2=>h3 i g1 (hlistf i g2).2) hcl' hfuel' hp
    ⟨hd.base.trans (hbel.mono hd.base.size),fun b hb=>(hA b (Nat.lt_of_lt_of_le hb hd.base.size)).trans (hd.outer b hb),?_,fun t htl hwr=>?_,hR',by rw [xcc];exact hd.defers,hd.ev.step hmv,fun i o' g1 g2 g3=>hd.later i o' g1 g2 (hlistf i g3).2⟩
   · cases hdd:o.dst with
     | none=>exact hd.size
     | some d=>simp [Act.put,hd.size]
   · by_cases hdt:o.dst=some t
     · have e1:(a.put o.dst v).tmps.getD t undef=v:=by
        have:t<a.tmps.size:=by rw [hd.size];exact htl
        simp [Act.put,hdt,this]
       rw [e1,hdx t hdt htl];exact hr
     · have e1:(a.put o.dst v).tmps.getD t undef=a.tmps.getD t undef:=by
        cases hdd:o.dst with
        | none=>rfl
        | some d =>
         have hne:d≠t:=fun e=>hdt (by rw [hdd,e])
         simp [Act.put,Array.getElem?_setIfInBounds_ne hne]
       rw [e1]
       refine hmv.rel (hd.tmps t htl fun i hi he=>?_)
       rcases (hlist' i).1 (hwr i hi he) with rfl|h
       · exact absurd (by simpa [dstOf,ho] using he) hdt
       · exact h
  ·
   have hjk:j=k:=by
    rcases Nat.lt_trichotomy j k with hlt|heq|hgt
    · have:=h1 j hjm hlt;rw [hun] at this;simp at this
    · exact heq
    · rcases hE3 hjm k hgt with h|⟨h,_⟩
      · have:listed.getD k false=true:=hmk k h
        rw [h2 k (Nat.le_refl _) (by omega)] at this;simp at this
      · omega
   subst hjk
   have hdrop:ops.toList.drop j=o::ops.toList.drop (j+1):=by
    rw [List.drop_eq_getElem_cons (by simpa using hjs)]
    congr 1
    have:ops[j]?=some ops[j]:=by simp [hjs]
    rw [this] at ho
    simpa using ho
   rw [hdrop] at hp
   have hml:∀ t,t∈outT ops m ((masks ops).getD j 0)→∃ i,i<m∧dstOf ops i=some t∧isFloat wf ops m i=true:=fun t ht=>by
    unfold outT at ht
    obtain ⟨i,hi,hit⟩:=List.mem_filterMap.1 ht
    have him:=List.mem_range.1 hi
    split at hit
    · simp at hit
    · rename_i hb
      refine ⟨i,him,hit,?_⟩
      rcases hE3 hjm i (by omega) with h|h
      · rw [h] at hb;simp at hb
      · exact h.2
   have hnm:∀ t,t∉outT ops m ((masks ops).getD j 0)→∀ i,i<m→dstOf ops i=some t→listed.getD i false=true:=fun t ht i hi he=>by
    cases hb:((masks ops).getD j 0).testBit i with
    | true=>exact hmk i hb
    | false=>exact absurd (List.mem_filterMap.2 ⟨i,List.mem_range.2 hi,by rw [hb];exact he⟩) ht
   have hdst:∀ t,t∈outT ops m ((masks ops).getD j 0)→o.dst≠some t:=fun t ht=>by
    obtain ⟨i,hi,he,hfl⟩:=hml t ht
    obtain ⟨oi,hoi,_,_,htl⟩:=xb3 hfl
    have:=(htl j hjm hjs).1 t (by simpa [dstOf,hoi] using he)
    simpa [dstOf,ho] using this
   have hSR:SR w0 A0 w A M ⟨maskT (outT ops m ((masks ops).getD j 0)) s.tmps,s.heap⟩ a:=by
    refine ⟨hd.base,hd.outer,by rw [xcz];exact hd.size,fun t ht=>?_,hd.heap,hd.defers,hd.ev⟩
    simp only [xcz] at ht
    by_cases hin:t∈outT ops m ((masks ops).getD j 0)
    · simp only [xip hin];exact .top _
    · simp only [xdV hin];exact hd.tmps t ht (hnm t hin)
   have hlater:∀ (s':St),s'.tmps.length=s.tmps.length→(∀ t,o.dst≠some t→s'.tmps.getD t .top=s.tmps.getD t .top)→∀ i o',i<m→ops[i]?=some o'→(listed.setIfInBounds j true).getD i false=false→∃ x,fop P s'.eval [] 0 o'.op=some (x,none)∧∀ d,o'.dst=some d→d<s'.tmps.length→s'.tmps.getD d .top=x:=by
    intro s' hlen hsame i o' g1 g2 g3
    have g4:=(hlistf i g3).2
    obtain ⟨x,hx1,hx2⟩:=hd.later i o' g1 g2 g4
    obtain ⟨oi,hoi,hfl,_,htl⟩:=xb3 (h3 i g1 g4)
    rw [g2] at hoi;simp only [Option.some.injEq] at hoi;subst hoi
    obtain ⟨t1,t2⟩:=htl j hjm hjs
    have hd1:dstOf ops j=o.dst:=by simp [dstOf,ho]
    rw [hd1] at t1 t2
    refine ⟨x,(xeW hfl (xhF hx1) (xgl (ops:=ops) fun t ht=>hsame t (t2 t ht)) hx1).2,fun d hd' hlt=>?_⟩
    rw [hsame d (t1 d hd')]
    exact hx2 d hd' (by rw [←hlen];exact hlt)
   unfold wpOp
   simp only [ho]
   cases hp with
   | @run _ _ _ _ s1 _ ml hmle hw h hr =>
    subst hmle
    have hwt:=xct (w:=w) (A:=A) (M:=M) hSR.size (fun jg want d _ _ hlt=>hSR.tmps d hlt) hw
    rw [if_pos hwt]
    left
    obtain ⟨x,hx⟩:=xlw h
    have hl1:s1.tmps.length=s.tmps.length:=by rw [hx,xck,xcz]
    refine xlv hIo hI h hSR fun v w' A' M' hs1 hmv=>?_
    refine ih (j+1) (listed.setIfInBounds j true) _ w' A' M' (a.put o.dst v) (by omega) (by omega) (by simp [hsz]) (fun i g1 g2=>(hlist' i).2 (by
     by_cases hij:i=j
     · exact .inl hij
     · exact .inr (h1 i g1 (by omega)))) (fun i g1 g2=>(hnotin i).2 (by rw [h2 i (by omega) g2];simp;omega)) (fun i g1 g2=>h3 i g1 (hlistf i g2).2) hcl' hfuel' hr
     ⟨hs1.base,hs1.outer,by simp only [xb8];exact hs1.size,fun t htl hwr=>?_,hs1.heap,hs1.defers,hs1.ev,hlater _ (by simp only [xb8];exact hl1) fun t ht=>?_⟩
    · simp only [xb8] at htl
      by_cases hin:t∈outT ops m ((masks ops).getD j 0)
      · simp only [xf8 hin htl]
        have e1:(a.put o.dst v).tmps.getD t undef=a.tmps.getD t undef:=by
         cases hdd:o.dst with
         | none=>rfl
         | some d =>
          have hne:d≠t:=fun e=>hdst t hin (by rw [hdd,e])
          simp [Act.put,Array.getElem?_setIfInBounds_ne hne]
        rw [e1]
        refine hmv.rel (hd.tmps t (by omega) fun i hi he=>?_)
        rcases (hlist' i).1 (hwr i hi he) with rfl|h
        · omega
        · exact h
      · simp only [xcS hin];exact hs1.tmps t htl
    · by_cases hin:t∈outT ops m ((masks ops).getD j 0)
      · by_cases hlt:t<s1.tmps.length
        · exact xf8 hin hlt
        · rw [xfi (show s.tmps.length≤t by rw [←hl1];exact Nat.le_of_not_lt hlt)]
          exact xfi (by simp only [xb8];exact Nat.le_of_not_lt hlt)
      · simp only [xcS hin]
        rw [hx,xcC ht,xdV hin]
   | skip ml hmle hw hr =>
    subst hmle
    have hwt:=xct (w:=w) (A:=A) (M:=M) hSR.size (fun jg want d _ _ hlt=>hSR.tmps d hlt) hw
    rw [if_neg (by rw [hwt];simp)]
    refine ih (j+1) (listed.setIfInBounds j true) _ w A M (a.put o.dst undef) (by omega) (by omega) (by simp [hsz]) (fun i g1 g2=>(hlist' i).2 (by
     by_cases hij:i=j
     · exact .inl hij
     · exact .inr (h1 i g1 (by omega)))) (fun i g1 g2=>(hnotin i).2 (by rw [h2 i (by omega) g2];simp;omega)) (fun i g1 g2=>h3 i g1 (hlistf i g2).2) hcl' hfuel' hr
     ⟨hd.base,hd.outer,?_,fun t htl hwr=>?_,hd.heap,by rw [xcc];exact hd.defers,hd.ev,hlater _ (by simp only [xck]) fun t ht=>xcC ht⟩
    · simp only [xck]
      cases hdd:o.dst with
      | none=>exact hd.size
      | some d=>simp [Act.put,hd.size]
    · simp only [xck] at htl
      by_cases hdt:o.dst=some t
      · have e1:(a.put o.dst undef).tmps.getD t undef=undef:=by
         have:t<a.tmps.size:=by rw [hd.size];exact htl
         simp [Act.put,hdt,this]
        rw [e1]
        simp only [hdt,xdw htl]
        exact Rel.tuple #[] [] rfl (by simp)
      · have e1:(a.put o.dst undef).tmps.getD t undef=a.tmps.getD t undef:=by
         cases hdd:o.dst with
         | none=>rfl
         | some d =>
          have hne:d≠t:=fun e=>hdt (by rw [hdd,e])
          simp [Act.put,Array.getElem?_setIfInBounds_ne hne]
        rw [e1]
        simp only [xcC hdt]
        refine hd.tmps t htl fun i hi he=>?_
        rcases (hlist' i).1 (hwr i hi he) with rfl|h
        · omega
        · exact h
end
end Go.Sim
namespace Go.Sim
open Go.RowKit
section
variable {P : Program} {Inv : IV} {w0 w : World} {A0 : Cx} {A : Nat → Prop} {M : Id → Option MB} {ops : Array Oper}
structure DInv (ops:Array Oper) (m:Nat) (st:Nat→St) (w0:World) (A0:Cx) (listed:Array Bool) (w:World) (A:Nat→Prop) (M:Id→Option MB) (a:Act):Prop where
 base:Below w0.heap.size w0 w
 outer:∀ b,b<w0.heap.size→(A b↔A0.av b)
 size:a.tmps.size=(st m).tmps.length
 tmps:∀ t,t<(st m).tmps.length→(∀ i,i<m→dstOf ops i=some t→listed.getD i false=true)→Rel w A M (a.tmps.getD t undef) ((st m).tmps.getD t .top)
 heap:HR w A M w0.heap.size (st m).heap
 ev:Ev A0 w A M
 ids:∀ id mm,M id=some mm→id.base<(st 0).heap.length∨∃ i,i<m∧listed.getD i false=true∧id.base=(st i).heap.length∧(st i).heap.length<(st (i+1)).heap.length
 defers:a.defers=[]
theorem xiX (hmx:P.follows .mixedOrders=true) (hIo:InvOk Inv) (hI:Inv w0) {Q:Exit→Act→World→Prop} {wf:Bool} {id m:Nat} (hok:regOk wf ops m=true) (hmn:m≤ops.size) {s s1 s2:St} {a:Act}
  (hF:Path (OpF P Inv) ops (ops.toList.take m) s s1) (hT:TPath P Inv ops m m (ops.toList.drop m) s1 s2) (hck:∀ i o,i<m→ops[i]?=some o→isFloat wf ops m i=true→ptrOk s1.eval o.op=true) (hs:SR w0 A0 w A M s a) (hQ:∀ a' w',SOk w0 A0 s2 a' w'→Q .normal a' w'):(Code.region id ops true).wp P Q a w:=by
 obtain ⟨st,hst0,hstm,hstep⟩:=xiU hF
 have hlm:(ops.toList.take m).length=m:=by simp;omega
 rw [hlm] at hstm
 have hstep':∀ j o,j<m→ops[j]?=some o→(awanted ops (st j).tmps o=some true∧OpF P Inv (st j) o (st (j+1)))∨(awanted ops (st j).tmps o=some false∧st (j+1)=⟨putT (st j).tmps o.dst (.tuple []),(st j).heap⟩):=by
  intro j o hj ho
  refine hstep j o ?_
  rw [List.getElem?_take,if_pos hj]
  simpa using ho
 have hop:∀ j,j<m→∃ o,ops[j]?=some o:=fun j hj=>⟨ops[j],by simp [show j<ops.size by omega]⟩
 have hsub1:∀ j,j<m→HSub (st j).heap (st (j+1)).heap:=by
  intro j hj
  obtain ⟨o,ho⟩:=hop j hj
  rcases hstep' j o hj ho with ⟨_,h⟩|⟨_,h⟩
  · exact h.sub
  · rw [h];exact HSub.refl _
 have hsub:∀ k j,j+k≤m→HSub (st j).heap (st (j+k)).heap:=by
  intro k
  induction k with
  | zero=>intro j _;exact HSub.refl _
  | succ k ih=>intro j hj;exact (ih j (by omega)).trans (hsub1 (j+k) (by omega))
 have hsubm:∀ j,j≤m→HSub (st j).heap (st m).heap:=fun j hj=>by have:=hsub (m - j) j (by omega);rwa [show j+(m - j)=m by omega] at this
 have hlen_of:∀ h H:List Box,HSub h H→h.length≤H.length:=by
  intro h H hs
  rcases Nat.lt_or_ge H.length h.length with hlt|hge
  · obtain ⟨f,hf,_⟩:=hs H.length h[H.length] (by simp [hlt])
    simp at hf
  · exact hge
 have hlen:∀ i j,i≤j→j≤m→(st i).heap.length≤(st j).heap.length:=fun i j hij hj=>by
  have:=hsub (j - i) i (by omega)
  rw [show i+(j - i)=j by omega] at this
  exact hlen_of _ _ this
 have htl1:∀ j,j<m→∃ o x,ops[j]?=some o∧(st (j+1)).tmps=putT (st j).tmps o.dst x:=by
  intro j hj
  obtain ⟨o,ho⟩:=hop j hj
  rcases hstep' j o hj ho with ⟨_,h⟩|⟨_,h⟩
  · rcases h with ⟨x,nb,_,h⟩|⟨c,g,args,args',r,_,_,_,_,h⟩
    · exact ⟨o,x,ho,by rw [h]⟩
    · exact ⟨o,r,ho,by rw [h]⟩
  · exact ⟨o,_,ho,by rw [h]⟩
 have htlen:∀ k j,j+k≤m→(st (j+k)).tmps.length=(st j).tmps.length:=by
  intro k
  induction k with
  | zero=>intro j _;rfl
  | succ k ih =>
   intro j hj
   obtain ⟨o,x,_,h⟩:=htl1 (j+k) (by omega)
   rw [←Nat.add_assoc,h,xck,ih j (by omega)]
 have htlenm:∀ j,j≤m→(st m).tmps.length=(st j).tmps.length:=fun j hj=>by have:=htlen (m - j) j (by omega);rwa [show j+(m - j)=m by omega] at this
 have hsame:∀ k j t,j+k≤m→(∀ i,j≤i→i<j+k→dstOf ops i≠some t)→(st (j+k)).tmps.getD t .top=(st j).tmps.getD t .top:=by
  intro k
  induction k with
  | zero=>intro j t _ _;rfl
  | succ k ih =>
   intro j t hj hno
   obtain ⟨o,x,ho,h⟩:=htl1 (j+k) (by omega)
   have hne:o.dst≠some t:=by
    have:=hno (j+k) (by omega) (by omega)
    simpa [dstOf,ho] using this
   rw [←Nat.add_assoc,h,xcC hne]
   exact ih j t (by omega) fun i hi hi'=>hno i hi (by omega)
 have hsamem:∀ j t,j≤m→(∀ i,j≤i→i<m→dstOf ops i≠some t)→(st m).tmps.getD t .top=(st j).tmps.getD t .top:=fun j t hj hno=>by
  have:=hsame (m - j) j t (by omega) (fun i hi hi'=>hno i hi (by omega))
  rwa [show j+(m - j)=m by omega] at this
 refine wp_region_any hmx ?_
 have hszr:(Array.replicate ops.size false).size=ops.size:=by simp
 have hlater:∀ i o,i<m→ops[i]?=some o→isFloat wf ops m i=true→∃ x,fop P (st m).eval [] 0 o.op=some (x,none)∧∀ d,o.dst=some d→d<(st m).tmps.length→(st m).tmps.getD d .top=x:=by
  intro i o him ho hfl
  obtain ⟨o',ho',hf1,hg1,_⟩:=xb3 hfl
  rw [ho] at ho';simp only [Option.some.injEq] at ho';subst ho'
  obtain ⟨hE1,hE2,_⟩:=xdd hok ho
  obtain ⟨hsingle,hlook⟩:=hE2 him
  rcases hstep' i o him ho with ⟨_,h⟩|⟨hw,_⟩
  · rcases h with ⟨x,nb,hf,h⟩|⟨c,g,args,args',r,hc,_⟩
    · replace hf:fop P (st i).eval (st i).heap (st i).heap.length o.op=some (x,nb):=by
       rcases hf with hf|hf
       · exact hf
       · exfalso
         revert hf1 hf
         cases o.op<;>simp [floatOp,fopE]
      have hev:∀ y,y∈o.op.operands.toList→(st m).eval y=(st i).eval y:=xgl (ops:=ops) fun t ht=>hsamem i t (by omega) fun i' hi hi' he=>by
       have:=hE1 i' (hlook t ht i' hi' he);omega
      have hpk:ptrOk (st i).eval o.op=true:=by
       have:=hck i o him ho hfl
       rw [←hstm] at this
       rwa [xiV hev] at this
      refine ⟨x,(xeW hf1 hpk hev hf).2,fun d hd hlt=>?_⟩
      · rw [hsamem (i+1) d (by omega) (fun i' hi hi' he=>by have:=hsingle d hd i' hi' he;omega),h,hd]
        exact xdw (by rw [←htlenm i (by omega)];exact hlt)
    · rw [hc] at hf1;simp [floatOp] at hf1
  · simp [awanted,hg1] at hw
 have phase:∀ (fuel:Nat) (listed:Array Bool) (w:World) (A:Nat→Prop) (M:Id→Option MB) (a:Act),listed.size=ops.size→unl ops.size listed≤fuel→(∀ i,m≤i→i<ops.size→listed.getD i false=false) →
   (∀ j o,ops[j]?=some o→listed.getD j false=true→∀ e,e∈edges o→listed.getD e false=true)→DInv ops m st w0 A0 listed w A M a→wpAny P .any ops Q fuel listed a w:=by
  intro fuel
  have go:∀ (fuel:Nat) (listed:Array Bool) (w:World) (A:Nat→Prop) (M:Id→Option MB) (a:Act),listed.size=ops.size→unl ops.size listed≤fuel→(∀ i,m≤i→i<ops.size→listed.getD i false=false) →
    (∀ j o,ops[j]?=some o→listed.getD j false=true→∀ e,e∈edges o→listed.getD e false=true)→DInv ops m st w0 A0 listed w A M a→(∀ i,i<m→(listed.getD i false || isFloat wf ops m i)=true)→wpAny P .any ops Q fuel listed a w:=by
   intro fuel listed w A M a hsz hf hrest hcl hd hall
   have hfl:∀ i,i<m→listed.getD i false=false→isFloat wf ops m i=true:=fun i hi hl=>by have:=hall i hi;rw [hl] at this;simpa using this
   refine xj1 hIo hI hok hQ fuel m listed s1 w A M a (Nat.le_refl _) hmn hsz (fun i h1 h2=>by omega) hrest hfl hcl hf hT ?_
   rw [←hstm]
   exact ⟨hd.base,hd.outer,hd.size,hd.tmps,hd.heap,hd.defers,hd.ev,fun i o g1 g2 g3=>hlater i o g1 g2 (hfl i g1 g3)⟩
  induction fuel with
  | zero =>
   intro listed w A M a hsz hf hrest hcl hd
   refine go 0 listed w A M a hsz hf hrest hcl hd fun i hi=>?_
   cases hl:listed.getD i false with
   | true=>rfl
   | false =>
    have:0<unl ops.size listed:=List.countP_pos_iff.2 ⟨i,List.mem_range.2 (by omega),by simp only [hl];rfl⟩
    omega
  | succ fuel ih =>
   intro listed w A M a hsz hf hrest hcl hd
   rcases xdk (n:=m) (p:=fun i=>listed.getD i false || isFloat wf ops m i) 0 (Nat.zero_le _) (fun i hi=>by omega) with hall|⟨jf,hjf,hnf,_⟩
   · exact go (fuel+1) listed w A M a hsz hf hrest hcl hd hall
   simp only [Bool.or_eq_false_iff] at hnf
   rcases xdk (n:=m) (p:=fun i=>listed.getD i false) 0 (Nat.zero_le _) (fun i hi=>by omega) with hall|⟨j0,hj0,hn0,hbef⟩
   · have:=hall jf hjf;rw [hnf.1] at this;simp at this
   have hrdy:=xfH hok hsz (show j0<ops.size by omega) hn0 hbef
   refine ⟨fun h=>by rw [h] at hrdy;simp at hrdy,fun j hj=>?_⟩
   obtain ⟨hu,o,ho,hall⟩:=mem_ready.1 hj
   have hjs:j<ops.size:=by
    rcases Nat.lt_or_ge j ops.size with h'|h'
    · exact h'
    · rw [Array.getElem?_eq_none h'] at ho;simp at ho
   have hjl:j<listed.size:=by omega
   have hun:listed.getD j false=false:=by simpa [hjl] using hu
   obtain ⟨hE1,hE2,hE3⟩:=xdd hok ho
   have hedge:∀ i,i∈edges o→listed.getD i false=true:=by
    intro i hi
    obtain ⟨e,he,hek⟩:=List.mem_map.1 hi
    obtain ⟨he1,he2⟩:=List.mem_filter.1 he
    have:=hall e (Array.mem_toList_iff.1 he1) he2
    rwa [hek] at this
   have hjm:j<m:=by
    rcases Nat.lt_or_ge j m with h'|h'
    · exact h'
    · rcases hE3 h' jf (by omega) with h|⟨_,h⟩
      · have:listed.getD jf false=true:=xjh (L:=fun i=>listed.getD i false=true) hcl j o ho hedge jf h
        rw [hnf.1] at this;simp at this
      · rw [hnf.2] at h;simp at h
   obtain ⟨hsingle,hlook⟩:=hE2 hjm
   have hseen:∀ t,t∈o.looksAt ops→t<(st m).tmps.length→Rel w A M (a.tmps.getD t undef) ((st j).tmps.getD t .top):=by
    intro t ht htl
    have h1:=hd.tmps t htl fun i hi he=>hedge i (hlook t ht i hi he)
    rwa [hsamem j t (by omega) (fun i hi hi' he=>by have:=hE1 i (hlook t ht i hi' he);omega)] at h1
   have hwsz:a.tmps.size=(st j).tmps.length:=by rw [hd.size,htlenm j (by omega)]
   have hlist':∀ i,(listed.setIfInBounds j true).getD i false=true↔(i=j∨listed.getD i false=true):=by
    intro i
    by_cases hij:j=i
    · subst hij;simp [hjl]
    · have:¬ i=j:=fun e=>hij e.symm
      simp [Array.getElem?_setIfInBounds_ne hij,this]
   have hfuel':unl ops.size (listed.setIfInBounds j true)≤fuel:=by
    have:=xjo hsz hjs hun
    omega
   have hcl':∀ j' o',ops[j']?=some o'→(listed.setIfInBounds j true).getD j' false=true→∀ e,e∈edges o'→(listed.setIfInBounds j true).getD e false=true:=by
    intro j' o' ho' hl e he
    rcases (hlist' j').1 hl with rfl|hl
    · rw [ho] at ho';simp only [Option.some.injEq] at ho';subst ho'
      exact (hlist' e).2 (.inr (hedge e he))
    · exact (hlist' e).2 (.inr (hcl j' o' ho' hl e he))
   have hrest':∀ i,m≤i→i<ops.size→(listed.setIfInBounds j true).getD i false=false:=by
    intro i h1 h2
    have hij:j≠i:=by omega
    have:=hrest i h1 h2
    simpa [Array.getElem?_setIfInBounds_ne hij] using this
   have htm:∀ (x:AV) (v:Value) (w':World) (A':Nat→Prop) (M':Id→Option MB),(st (j+1)).tmps=putT (st j).tmps o.dst x→Rel w' A' M' v x→(∀ t,t<(st m).tmps.length→(∀ i,i<m→dstOf ops i=some t→listed.getD i false=true)→Rel w' A' M' (a.tmps.getD t undef) ((st m).tmps.getD t .top)) →
     ∀ t,t<(st m).tmps.length→(∀ i,i<m→dstOf ops i=some t→(listed.setIfInBounds j true).getD i false=true)→Rel w' A' M' ((a.put o.dst v).tmps.getD t undef) ((st m).tmps.getD t .top):=by
    intro x v w' A' M' hx hv hold t htl hw
    by_cases hdt:o.dst=some t
    · have e1:(a.put o.dst v).tmps.getD t undef=v:=by
       have:t<a.tmps.size:=by rw [hd.size];exact htl
       simp [Act.put,hdt,this]
      have e2:(st m).tmps.getD t .top=x:=by
       rw [hsamem (j+1) t (by omega) (fun i hi hi' he=>by have:=hsingle t hdt i hi' he;omega),hx,hdt]
       exact xdw (by rw [←htlenm j (by omega)];exact htl)
      rw [e1,e2];exact hv
    · have e1:(a.put o.dst v).tmps.getD t undef=a.tmps.getD t undef:=by
       cases hdd:o.dst with
       | none=>rfl
       | some d =>
        have hne:d≠t:=fun e=>hdt (by rw [hdd,e])
        simp [Act.put,Array.getElem?_setIfInBounds_ne hne]
      rw [e1]
      refine hold t htl fun i hi he=>?_
      rcases (hlist' i).1 (hw i hi he) with rfl|h
      · exact absurd (by simpa [dstOf,ho] using he) hdt
      · exact h
   unfold wpOp
   simp only [ho]
   rcases hstep' j o hjm ho with ⟨hw,h⟩|⟨hw,h⟩
   · have hwt:=xct (w:=w) (A:=A) (M:=M) hwsz (fun jg want d hg hdd hlt=>hseen d (xfE hg hdd) (by rw [htlenm j (by omega)];exact hlt)) hw
     rw [if_pos hwt]
     left
     obtain ⟨x,hx,hwp⟩:=xfZ (w:=w) (A:=A) (M:=M) (B:=w0.heap.size) (a:=a) (K:=wpAny P .any ops Q fuel (listed.setIfInBounds j true)) (Q:=Q) h (hsubm (j+1) (by omega)) hd.heap hd.base.size (hIo.below _ _ hI hd.base)
      (fun y hy=>by
       cases y with
       | tmp t =>
        by_cases htl:t<(st m).tmps.length
        · exact hseen t (xc1 hy) htl
        · have:(st j).eval (.tmp t)=.top:=by
           simp only [St.eval,List.getD_eq_getElem?_getD]
           rw [List.getElem?_eq_none (by rw [←htlenm j (by omega)];exact Nat.le_of_not_lt htl)];rfl
          rw [this];exact .top _
       | const v=>exact xaG w A M v
       | global g=>exact .gptr g
       | func f=>exact .func f #[] [] rfl (by simp))
      (fun hgrow=>by
       have free:∀ x:Id,x.base=(st j).heap.length→M x=none:=fun x hx=>by
        cases hmn':M x with
        | none=>rfl
        | some mm =>
         exfalso
         rcases hd.ids _ mm hmn' with h1|⟨i,him,hil,he,hg⟩
         · have:=hlen 0 j (Nat.zero_le _) (by omega);omega
         · rcases Nat.lt_trichotomy i j with hlt|heq|hgt
           · have:=hlen (i+1) j (by omega) (by omega);omega
           · subst heq;rw [hun] at hil;simp at hil
           · have:=hlen (j+1) i (by omega) (by omega);omega
       exact ⟨free (.b _) rfl,fun i' j'=>free (.r _ i' j') rfl⟩)
     refine hwp fun v w' A' M' hbel hext hA hM ht hR' hr=>ih (listed.setIfInBounds j true) w' A' M' (a.put o.dst v) (by simp [hsz]) hfuel' hrest' hcl' ?_
     refine ⟨hd.base.trans (hbel.mono hd.base.size),fun b hb=>(hA b (Nat.lt_of_lt_of_le hb hd.base.size)).trans (hd.outer b hb),?_,?_,hR',hd.ev.step ⟨hbel.size,fun b hb _=>hbel.block b hb,fun b hb h=>(hA b hb).1 h,fun b hb h _=>(hA b hb).2 h,hext,ht⟩,fun id mm hmm=>?_,by rw [xcc];exact hd.defers⟩
     · cases hdd:o.dst with
       | none=>exact hd.size
       | some d=>simp [Act.put,hd.size]
     · exact htm x v w' A' M' hx hr fun t htl hw'=>(hd.tmps t htl hw').mono (fun b hb _=>hbel.block b hb) hbel.size (fun b hb hA'=>(hA b hb).1 hA') hext
     · rcases hM id mm hmm with ⟨m0,hm0⟩|⟨he,hg⟩
       · rcases hd.ids id m0 hm0 with h1|⟨i,him,hil,he,hg⟩
         · exact .inl h1
         · exact .inr ⟨i,him,(hlist' i).2 (.inr hil),he,hg⟩
       · exact .inr ⟨j,hjm,(hlist' j).2 (.inl rfl),by rw [he];rfl,hg⟩
   · have hwt:=xct (w:=w) (A:=A) (M:=M) hwsz (fun jg want d hg hdd hlt=>hseen d (xfE hg hdd) (by rw [htlenm j (by omega)];exact hlt)) hw
     rw [if_neg (by rw [hwt];simp)]
     refine ih (listed.setIfInBounds j true) w A M (a.put o.dst undef) (by simp [hsz]) hfuel' hrest' hcl' ?_
     refine ⟨hd.base,hd.outer,?_,?_,hd.heap,hd.ev,fun id mm hmm=>?_,by rw [xcc];exact hd.defers⟩
     · cases hdd:o.dst with
       | none=>exact hd.size
       | some d=>simp [Act.put,hd.size]
     · exact htm (.tuple []) undef w A M (by rw [h]) (.tuple #[] [] rfl (by simp)) hd.tmps
     · rcases hd.ids id mm hmm with h1|⟨i,him,hil,he,hg⟩
       · exact .inl h1
       · exact .inr ⟨i,him,(hlist' i).2 (.inr hil),he,hg⟩
 obtain ⟨A1,hs1,hmv1⟩:=hs.refreeze (by rw [←hst0];exact hsubm 0 (Nat.zero_le _):HSub s.heap (st m).heap)
 have hlis:∀ i,(Array.replicate ops.size false).getD i false=false:=by
  intro i
  by_cases hi:i<ops.size<;>simp [hi]
 have hunl:unl ops.size (Array.replicate ops.size false)≤ops.size:=by
  have:=List.countP_le_length (l:=List.range ops.size) (p:=fun i=>!(Array.replicate ops.size false).getD i false)
  simpa [unl] using this
 refine phase ops.size (Array.replicate ops.size false) _ A1 M a hszr hunl (fun i _ _=>hlis i) (fun j o _ hl=>by rw [hlis j] at hl;simp at hl) ?_
 have hdrew:Below w.heap.size w { w with drawn:=w.drawn+1 }:=⟨rfl,rfl,rfl,Nat.le_refl _,fun _ _=>rfl⟩
 refine ⟨hs.base.trans ⟨rfl,rfl,rfl,Nat.le_refl _,fun _ _=>rfl⟩,hs1.outer,by rw [htlenm 0 (Nat.zero_le _),hst0];exact hs.size,fun t htl hw=>?_,hs1.heap.grow hdrew,hs1.ev.step ⟨Nat.le_refl _,fun _ _ _=>rfl,fun _ _ h=>h,fun _ _ h _=>h,MExt.refl M,.of_new hdrew fun _ _ h=>.inl h⟩,fun id mm hmm=>?_,hs.defers⟩
 · have hno:∀ i,i<m→dstOf ops i≠some t:=fun i hi he=>by have:=hw i hi he;rw [hlis i] at this;simp at this
   rw [hsamem 0 t (Nat.zero_le _) (fun i _ hi=>hno i hi),hst0]
   rw [htlenm 0 (Nat.zero_le _),hst0] at htl
   exact (hs1.tmps t htl).grow hdrew
 · left
   rw [hst0]
   rcases Nat.lt_or_ge id.base s.heap.length with h'|h'
   · exact h'
   · rw [hs.heap.none_of_base h'] at hmm;simp at hmm
end
end Go.Sim
namespace Go.Sim
open Go.RowKit
def refsOf:AV→List Nat
 | .agg cs=>refsL cs
 | .func _ cs=>refsL cs
 | .tuple cs=>refsL cs
 | .own id _ _ _=>[id.base]
 | .osl id _ _ _=>[id.base]
 | _=>[]
where refsL:List AV→List Nat
 | []=>[]
 | x::xs=>refsOf x++refsL xs
def gather (H:List Box):Nat→List Nat→List Nat→List Nat
 | 0,_,acc=>acc
 | _,[],acc=>acc
 | n+1,id::todo,acc=>match posOf acc id with
  | some _=>gather H n todo acc
  | none=>match H[id]? with
   | some bx=>match bx.pm with
    | true=>gather H n todo (acc++[id])
    | false=>gather H n (todo++refsOf.refsL bx.xs) (acc++[id])
   | none=>gather H n todo acc
def normF (pin:Nat) (ids:List Nat) (H:List Box) (id ver:Nat):Option (Nat×Nat):=match posOf ids id with
 | none=>none
 | some j=>match Nat.blt j pin with
  | true=>some (j,ver)
  | false=>match H[id]? with
   | none=>none
   | some bx=>match Nat.beq bx.ver ver with
    | true=>some (j,0)
    | false=>none
def normH (pin:Nat) (f:Nat→Nat→Option (Nat×Nat)) (H:List Box):Nat→List Nat→Option (List Box)
 | _,[]=>some []
 | j,id::ids=>match H[id]? with
  | some bx=>match renBoxOk f bx with
   | true=>match normH pin f H (j+1) ids with
    | some bs=>some (renBox f (match Nat.blt j pin with|true=>bx.ver|false=>0) bx::bs)
    | none=>none
   | false=>none
  | none=>none
def pinsOk:Nat→Nat→List Nat→Bool
 | 0,_,_=>true
 | _+1,_,[]=>false
 | n+1,j,id::ids=>Nat.beq id j&&pinsOk n (j+1) ids
theorem xfG:∀ {n j:Nat} {ids:List Nat},pinsOk n j ids=true→∀ k,k<n→ids[k]?=some (j+k)
 | 0,_,_,_,k,hk=>by omega
 | n+1,j,[],h,_,_=>by simp [pinsOk] at h
 | n+1,j,id::ids,h,k,hk=>by
  simp only [pinsOk,Bool.and_eq_true] at h
  cases k with
  | zero=>simpa using Nat.eq_of_beq_eq_true h.1
  | succ k =>
   have:=xfG h.2 k (by omega)
   rw [List.getElem?_cons_succ,this];congr 1;omega
theorem xgz {pin:Nat} {f:Nat→Nat→Option (Nat×Nat)} {H:List Box}:∀ {ids:List Nat} {j0:Nat} {H':List Box},normH pin f H j0 ids=some H'→H'.length=ids.length∧∀ (j id:Nat),ids[j]?=some id→∃ bx:Box,H[id]?=some bx∧H'[j]?=some (renBox f (match Nat.blt (j0+j) pin with|true=>bx.ver|false=>0) bx)∧renBoxOk f bx=true
 | [],j0,H',h=>by simp only [normH,Option.some.injEq] at h;subst h;simp
 | a::ids,j0,H',h=>by
  unfold normH at h
  split at h
  case h_2=>simp at h
  rename_i bx hb
  split at h
  case h_2=>simp at h
  rename_i hok
  split at h
  case h_2=>simp at h
  rename_i bs hbs
  simp only [Option.some.injEq] at h;subst h
  obtain ⟨h1,h2⟩:=xgz hbs
  refine ⟨by simp [h1],fun j id hj=>?_⟩
  cases j with
  | zero =>
   simp only [List.getElem?_cons_zero,Option.some.injEq] at hj
   subst hj
   exact ⟨bx,hb,rfl,hok⟩
  | succ j =>
   obtain ⟨bx',e1,e2,e3⟩:=h2 j id (by simpa using hj)
   exact ⟨bx',e1,by rw [show j0+(j+1)=j0+1+j by omega];simpa using e2,e3⟩
theorem xlm {a b:Nat} (h:Nat.blt a b=true):a<b:=Nat.le_of_ble_eq_true h
def ageOf (pin j:Nat) (m:MB):MB:=match Nat.blt j pin with
 | true=>m
 | false=>{ m with ver:=0 }
def agI (pin:Nat) (x:Id) (m:MB):MB:=match x with
 | .b j=>ageOf pin j m
 | .r _ _ _=>m
theorem xhz {pin:Nat} {ids:List Nat} {H:List Box} {id ver k v:Nat} (h:normF pin ids H id ver=some (k,v)):posOf ids id=some k:=by
 unfold normF at h
 split at h
 · simp at h
 rename_i j hj
 split at h
 · simp only [Option.some.injEq,Prod.mk.injEq] at h;rw [hj,h.1]
 · split at h
   · simp at h
   split at h
   · simp only [Option.some.injEq,Prod.mk.injEq] at h;rw [hj,h.1]
   · simp at h
theorem HR.norm {w:World} {A:Nat→Prop} {M:Id→Option MB} {B:Nat} {H H':List Box} (hR:HR w A M B H) {pin:Nat} {ids:List Nat} (hnd:nodupB ids=true) (hpin:pinsOk pin 0 ids=true) (hH:normH pin (normF pin ids H) H 0 ids=some H') :
  ∃ M',HR w A M' B H'∧RenTo (normF pin ids H) M M'∧(∀ id m,id.base<pin→M id=some m→M' id=some m)∧∀ k m',M' k=some m'→∃ id m,M id=some m∧m'.b=m.b∧m'.cap=m.cap:=by
 obtain ⟨hl,hsp⟩:=xgz hH
 let M':Id→Option MB:=fun x=>(ids[x.base]?).bind fun n=>(M (x.re n)).map (agI pin x)
 have hM's:∀ (x:Id) m',M' x=some m'→∃ n m,ids[x.base]?=some n∧M (x.re n)=some m∧m'=agI pin x m:=fun x m' h=>by
  simp only [M'] at h
  cases hj:ids[x.base]? with
  | none=>rw [hj] at h;simp at h
  | some id =>
   rw [hj] at h
   simp only [Option.bind_some,Option.map_eq_some_iff] at h
   obtain ⟨m,h1,h2⟩:=h
   exact ⟨id,m,rfl,h1,h2.symm⟩
 have hM'of:∀ (x:Id) n m,ids[x.base]?=some n→M (x.re n)=some m→M' x=some (agI pin x m):=fun x n m hj hm=>by simp [M',hj,hm]
 have hage:∀ (x:Id) m,(agI pin x m).b=m.b∧(agI pin x m).sz=m.sz∧(agI pin x m).cap=m.cap∧(agI pin x m).ty=m.ty:=fun x m=>by
  cases x with
  | b j=>unfold agI ageOf;simp only;split<;>exact ⟨rfl,rfl,rfl,rfl⟩
  | r f i j=>exact ⟨rfl,rfl,rfl,rfl⟩
 have hto:RenTo (normF pin ids H) M M':=fun id ver k v m hf hm hv=>by
  cases id with
  | r g i' j' =>
   simp only [renI] at hf
   split at hf
   case h_2=>simp at hf
   rename_i j u hj
   simp only [Option.some.injEq,Prod.mk.injEq] at hf
   obtain ⟨rfl,rfl⟩:=hf
   exact ⟨m,hM'of (.r j i' j') g m (xbH (xhz hj)) hm,hv,rfl,rfl,rfl,rfl,fun e=>e⟩
  | b id =>
   simp only [renI] at hf
   split at hf
   case h_2=>simp at hf
   rename_i j u hf'
   simp only [Option.some.injEq,Prod.mk.injEq] at hf
   obtain ⟨rfl,rfl⟩:=hf
   have hij:=xbH (xhz hf')
   unfold normF at hf'
   split at hf'
   · simp at hf'
   rename_i j' hj'
   split at hf'
   · rename_i hb
     simp only [Option.some.injEq,Prod.mk.injEq] at hf'
     obtain ⟨rfl,rfl⟩:=hf'
     have:agI pin (.b j') m=m:=by simp [agI,ageOf,hb]
     exact ⟨m,by rw [hM'of (.b j') id m hij hm,this],hv,rfl,rfl,rfl,rfl,fun e=>e⟩
   · rename_i hb
     split at hf'
     · simp at hf'
     rename_i bx hbx
     split at hf'
     case h_2=>simp at hf'
     rename_i hver
     simp only [Option.some.injEq,Prod.mk.injEq] at hf'
     obtain ⟨rfl,rfl⟩:=hf'
     obtain ⟨bx',g1,g2⟩:=hR.box (.b id) m hm
     rw [xaK,hbx] at g1
     simp only [Option.some.injEq] at g1
     subst g1
     obtain ⟨a1,a2,a3,a4⟩:=hage (.b j') m
     exact ⟨_,hM'of (.b j') id m hij hm,Nat.zero_le _,a1,a2,a3,a4,fun _=>by rw [←Nat.eq_of_beq_eq_true hver,g2.ver]⟩
 refine ⟨M',⟨fun x m' hm'=>?_,fun x x' m1 m2 h1 h2 c1 c2 he=>?_,hR.lt⟩,hto,fun id m hid hm=>?_,fun k m' hm'=>?_⟩
 · obtain ⟨n,m,hj,hm,rfl⟩:=hM's x m' hm'
   obtain ⟨bx,g1,g2,g3⟩:=hsp x.base n hj
   obtain ⟨bx',g4,g5⟩:=hR.box (x.re n) m hm
   obtain ⟨a1,a2,a3,a4⟩:=hage x m
   cases x with
   | b j =>
    have g4':H[n]?=some bx':=g4
    rw [g1] at g4'
    simp only [Option.some.injEq] at g4'
    subst g4'
    refine ⟨_,g2,g5.ren g3 hto (fun i' j' m0 h0=>hM'of (.r j i' j') n m0 hj h0) a1 ?_ a2 a3 a4⟩
    simp only [Id.base]
    rw [Nat.zero_add]
    unfold agI ageOf
    simp only
    split
    · exact g5.ver.symm
    · rfl
   | r k i' j' =>
    have hp:=xdQ g4
    have g6:getB H' (.r k i' j')=some bx':=xeg (f:=normF pin ids H) g4 fun bx0 hb0=>by
     rw [g1] at hb0
     simp only [Option.some.injEq] at hb0
     subst hb0;exact ⟨_,g2⟩
    have g7:=g5.ren (f:=normF pin ids H) (M':=M') (id':=.r k i' j') (m':=m) (ver:=m.ver) (xdZ hp) hto (fun i1 j1 m0 h0=>hM'of (.r k i1 j1) n m0 hj h0) rfl rfl rfl rfl rfl
    rw [←g5.ver,xe9 hp] at g7
    exact ⟨bx',g6,g7⟩
 · obtain ⟨n1,m1',e1,e2,rfl⟩:=hM's x m1 h1
   obtain ⟨n2,m2',e3,e4,rfl⟩:=hM's x' m2 h2
   obtain ⟨a1,_,a3,_⟩:=hage x m1'
   obtain ⟨b1,_,b3,_⟩:=hage x' m2'
   rw [a3] at c1;rw [b3] at c2
   have:=hR.inj _ _ m1' m2' e2 e4 c1 c2 (by rw [←a1,←b1,he])
   obtain ⟨rfl,hx⟩:=Id.re_inj this
   have p1:=xbR hnd e1
   have p2:=xbR hnd e3
   rw [p1] at p2
   exact hx (by simpa using p2)
 · have:=xfG hpin id.base hid
   rw [Nat.zero_add] at this
   rw [hM'of id id.base m this (by rw [Id.re_self];exact hm)]
   have hb:Nat.blt id.base pin=true:=Nat.ble_eq_true_of_le hid
   cases id with
   | b n=>simp only [Id.base] at hb;simp [agI,ageOf,hb]
   | r f i j=>rfl
 · obtain ⟨n,m,hj,hm,rfl⟩:=hM's k m' hm'
   obtain ⟨a1,_,a3,_⟩:=hage k m
   exact ⟨_,m,hm,a1,a3⟩
theorem Ev.norm {C:Cx} {w:World} {A:Nat→Prop} {M M':Id→Option MB} (h:Ev C w A M) {pin:Nat} (hp:C.pin≤pin) (h1:∀ id m,id.base<pin→M id=some m→M' id=some m) (h2:∀ k m',M' k=some m'→∃ id m,M id=some m∧m'.b=m.b∧m'.cap=m.cap):Ev C w A M':=by
 refine ⟨h.size,h.keep,h.less,h.more,fun id m hid hm=>?_,fun id m' hm' h0=>?_⟩
 · obtain ⟨m',g1,g2⟩:=h.ids id m hid hm
   exact ⟨m',h1 id m' (by omega) g1,g2⟩
 · obtain ⟨i,m,g1,g2,g3⟩:=h2 id m' hm'
   rw [g3] at h0
   rw [g2]
   exact h.src i m g1 h0
def mkTs (n:Nat):List (Nat×AV)→List AV
 | []=>List.replicate n .top
 | (t,v)::l=>(mkTs n l).set t v
def liveOf (live:List Nat) (ts:List AV):List AV:=live.map fun t=>ts.getD t .top
theorem xci (n:Nat):∀ l:List (Nat×AV),(mkTs n l).length=n
 | []=>by simp [mkTs]
 | (t,v)::l=>by simp [mkTs,xci n l]
theorem xhy (n:Nat) (ts:List AV) (hn:ts.length=n) (t:Nat):∀ live:List Nat,(mkTs n (live.zip (liveOf live ts))).getD t .top=ts.getD t .top∨(mkTs n (live.zip (liveOf live ts))).getD t .top=.top
 | []=>by
  right
  simp only [List.zip_nil_left,mkTs,List.getD_eq_getElem?_getD,List.getElem?_replicate]
  split<;>rfl
 | a::live=>by
  simp only [liveOf,List.map_cons,List.zip_cons_cons,mkTs]
  have ih:=xhy n ts hn t live
  simp only [liveOf] at ih
  by_cases ha:a=t
  · subst ha
    by_cases hlt:a<n
    · left
      exact xbe (by rw [xci];exact hlt)
    · right
      exact xfi (by rw [List.length_set,xci];omega)
  · rw [xbf ha];exact ih
def shrH (sz id len:Nat) (H:List Box):List Box:=match sz with
 | 0=>match H[id]? with
  | some bx=>match isC bx.ty with
   | false=>H.set id ⟨bx.ver,bx.sz,bx.ty,bx.xs.take len,bx.frz,bx.pm⟩
   | true=>H
  | none=>H
 | _+1=>H
def convH (sz:Nat) (ty:TypeId) (id:Nat) (H:List Box):List Box:=match H[id]? with
 | some bx=>match isC bx.ty with
  | false=>match bx.xs with
   | [c]=>match c with
    | .nils=>match sz with
     | 0=>H
     | n+1=>match Nat.beq bx.sz 1 with
      | true=>H.set id ⟨bx.ver,1,bx.ty,[.osl (.b H.length) 0 0 0],bx.frz,false⟩++[⟨0,n+1,ty,[],false,true⟩]
      | false=>H
    | .osl (.b id2) _ _ len=>shrH sz id2 len H
    | _=>H
   | _=>H
  | true=>H
 | none=>H
section
variable {w : World} {A : Nat → Prop} {M : Id → Option MB} {B : Nat} {H : List Box}
theorem Mv.refl:Mv w A M w A M:=⟨Nat.le_refl _,fun _ _ _=>rfl,fun _ _ h=>h,fun _ _ h _=>h,MExt.refl M,⟨fun _ _ _=>rfl,fun id m h h0=>.inl ⟨id,m,h,h0,rfl⟩⟩⟩
theorem HR.shrH (hR:HR w A M B H) (sz id len:Nat):HR w A M B (Sim.shrH sz id len H):=by
 unfold Sim.shrH
 split
 · split
   · rename_i bx hb
     split
     · rename_i hpl
       refine hR.rebuild (fun k=>k=id) (fun k hk _=>List.getElem?_set_ne (fun e=>hk e.symm)) (fun _ _=>rfl) (fun _ _ _ _ _=>⟨rfl,fun h=>h⟩) (fun _ _ _=>rfl) (Nat.le_refl _) (fun _ _ h=>h) (MExt.refl M) (fun x m hx hm=>?_) (fun x m1 x' m2 _ h1 h2 c1 c2 he=>hR.inj x x' m1 m2 h1 h2 c1 c2 he) hR.lt
       obtain ⟨bx',k1,k2⟩:=hR.box x m hm
       by_cases hx0:x=.b id
       · subst hx0
         rw [xaK,hb] at k1
         simp only [Option.some.injEq] at k1
         subst k1
         refine ⟨⟨bx.ver,bx.sz,bx.ty,bx.xs.take len,bx.frz,bx.pm⟩,by rw [xaK];exact List.getElem?_set_self (xbj hb),k2.ver,k2.sz,k2.ty,k2.capm,?_,fun y hy=>k2.ok y (List.mem_of_mem_take hy),k2.low,k2.lt,fun h0=>?_,k2.guard⟩
         · have:=k2.fits
           simp only [List.length_take]
           omega
         · obtain ⟨c,c1,c2,c3⟩:=k2.cells h0
           have hnm:isMapT m.ty=false:=k2.nomap (xak hpl)
           refine ⟨c,.of hnm (c1.plain hnm),c2,fun i j hi hj=>?_⟩
           simp only [List.length_take] at hi
           have:=c3 i j (by omega) hj
           have e:(bx.xs.take len).getD i .top=bx.xs.getD i .top:=by
            simp [List.getD_eq_getElem?_getD,show i<len by omega]
           show Rel w A (MV M _ j) _ (viewC _ i j bx.ty (((bx.xs.take len).getD i .top).cells.getD j .top))
           rw [e]
           exact this
       · refine ⟨bx',?_,k2⟩
         rw [xbs (bx:=bx) (bx':=⟨bx.ver,bx.sz,bx.ty,bx.xs.take len,bx.frz,bx.pm⟩) hb hpl hpl hx0]
         exact k1
     · exact hR
   · exact hR
 · exact hR
theorem HR.cellnil (hR:HR w A M B H) {id n:Nat} {bx:Box} (ty:TypeId) (hb:H[id]?=some bx) (hpl:isC bx.ty=false) (hx:bx.xs=[.nils]) (hs:bx.sz=1) :
  ∃ M',HR w A M' B (H.set id ⟨bx.ver,1,bx.ty,[.osl (.b H.length) 0 0 0],bx.frz,false⟩++[⟨0,n+1,ty,[],false,true⟩])∧Mv w A M w A M':=by
 obtain ⟨g1,g2,g3⟩:=hR.virt (n+1) ty true
 have hlt:=xbj hb
 have hbl:(H++[⟨0,n+1,ty,[],false,true⟩])[id]?=some bx:=by rw [List.getElem?_append_left hlt];exact hb
 have hset:H.set id ⟨bx.ver,1,bx.ty,[.osl (.b H.length) 0 0 0],bx.frz,false⟩++[(⟨0,n+1,ty,[],false,true⟩:Box)]=(H++[(⟨0,n+1,ty,[],false,true⟩:Box)]:List Box).set id (⟨bx.ver,1,bx.ty,[.osl (.b H.length) 0 0 0],bx.frz,false⟩:Box):=by
  rw [List.set_append,if_pos hlt]
 rw [hset]
 refine ⟨_,g1.rebuild (fun k=>k=id) (fun k hk _=>List.getElem?_set_ne (fun e=>hk e.symm)) (fun _ _=>rfl) (fun _ _ _ _ _=>⟨rfl,fun h=>h⟩) (fun _ _ _=>rfl) (Nat.le_refl _) (fun _ _ h=>h) (MExt.refl _) (fun x m hx' hm=>?_) (fun x m1 x' m2 _ h1 h2 c1 c2 he=>g1.inj x x' m1 m2 h1 h2 c1 c2 he) g1.lt,g2⟩
 obtain ⟨bx',k1,k2⟩:=g1.box x m hm
 by_cases hx0:x=.b id
 · subst hx0
   rw [xaK,hbl] at k1
   simp only [Option.some.injEq] at k1
   subst k1
   have hsz:m.sz=1:=by rw [←k2.sz];exact hs
   refine ⟨⟨bx.ver,1,bx.ty,[.osl (.b H.length) 0 0 0],bx.frz,false⟩,by rw [xaK];exact List.getElem?_set_self (xbj hbl),k2.ver,hsz.symm,k2.ty,k2.capm,?_,fun y hy=>?_,k2.low,k2.lt,fun h0=>?_,k2.guard⟩
   · have:=k2.fits
     rw [hx] at this
     exact this
   · simp only [List.mem_singleton] at hy
     subst hy
     rw [hsz];rfl
   · obtain ⟨c,c1,c2,c3⟩:=k2.cells h0
     have hnm:isMapT m.ty=false:=k2.nomap (xak hpl)
     refine ⟨c,.of hnm (c1.plain hnm),c2,fun i j hi hj=>?_⟩
     have hi0:i=0:=by simpa using hi
     have hj0:j=0:=by omega
     subst hi0 hj0
     have:=c3 0 0 (by rw [hx];simp) hj
     rw [xai hpl,xau hpl,hx] at this
     rw [xai hpl,xau (bx:=⟨bx.ver,1,bx.ty,[.osl (.b H.length) 0 0 0],bx.frz,false⟩) hpl]
     have h2:Rel w A (MPut M H.length ⟨0,0,n+1,0,rty ty⟩) (c.getD (0*m.sz+0) undef) .nils:=this.unmp
     generalize c.getD (0*m.sz+0) undef=v at h2
     cases h2
     exact g3 none
 · refine ⟨bx',?_,k2⟩
   rw [xbs (bx:=bx) (bx':=⟨bx.ver,1,bx.ty,[.osl (.b H.length) 0 0 0],bx.frz,false⟩) hbl hpl hpl hx0]
   exact k1
theorem HR.mark (hR:HR w A M B H) {id:Nat} {ty:TypeId} {bx:Box} {m:MB} (hm:M (.b id)=some m) (hb:H[id]?=some bx) (hpl:isC bx.ty=false) (hC:isC ty=true) (hnm:isMapT ty=false) (hty:rty ty=bx.ty) (hfz:bx.frz=false) (hpm:bx.pm=true) (hs:slotOf ty<bx.sz)
  (hnil:∀ y,y∈bx.xs→y.cells.getD (slotOf ty) .top=.nils) :
  ∃ M',HR w A M' B (H.set id ⟨bx.ver+1,bx.sz,bx.ty,[],false,true⟩++[⟨0,bx.sz,ty,bx.xs.map (newRow ty bx.sz),false,true⟩])∧Mv w A M w A M'∧∀ v len,Rel w A M v (.osl (.b id) bx.ver 0 len)→Rel w A M' v (.osl (.b H.length) 0 0 len):=by
 have hn:id<H.length:=xbj hb
 have hfree:=hR.free_of_length (n:=H.length) (Nat.le_refl _)
 have hne:(Id.b id)≠.b H.length:=fun e=>by injection e with e;omega
 obtain ⟨bx0,k1,hbat⟩:=hR.box _ m hm
 rw [xaK,hb] at k1
 simp only [Option.some.injEq] at k1
 subst k1
 have hmt:bx.ty=m.ty:=by have:=hbat.ty;rwa [xal hpl] at this
 have hnmm:isMapT m.ty=false:=by rw [←hmt];exact xak hpl
 let M':Id→Option MB:=fun x=>if x=.b H.length then some ⟨m.b,0,m.sz,m.cap,m.ty⟩ else if x=.b id then some ⟨0,m.ver+1,m.sz,0,m.ty⟩ else match x with
  | .b _=>M x
  | .r k i j=>if k=H.length∧i<bx.xs.length∧j=slotOf ty then some ⟨0,0,rowSz ty,0,rowTy ty⟩ else M x
 have hM'n:M' (.b H.length)=some ⟨m.b,0,m.sz,m.cap,m.ty⟩:=by simp [M']
 have hM'i:M' (.b id)=some ⟨0,m.ver+1,m.sz,0,m.ty⟩:=by simp [M',hne]
 have hM'r:∀ i,i<bx.xs.length→M' (.r H.length i (slotOf ty))=some ⟨0,0,rowSz ty,0,rowTy ty⟩:=fun i h1=>by simp [M',h1]
 have hM'o:∀ x:Id,x≠.b H.length→x≠.b id→(∀ i,i<bx.xs.length→x≠.r H.length i (slotOf ty))→M' x=M x:=fun x h1 h2 h3=>by
  cases x with
  | b k=>simp [M',h1,h2]
  | r k i j =>
   have:¬ (k=H.length∧i<bx.xs.length∧j=slotOf ty):=fun ⟨a1,a2,a3⟩=>h3 i a2 (by rw [a1,a3])
   simp [M',this]
 have hcase:∀ x m0,M' x=some m0→x=.b H.length∧m0=⟨m.b,0,m.sz,m.cap,m.ty⟩∨x=.b id∧m0=⟨0,m.ver+1,m.sz,0,m.ty⟩∨(∃ i,i<bx.xs.length∧x=.r H.length i (slotOf ty)∧m0=⟨0,0,rowSz ty,0,rowTy ty⟩)∨(M x=some m0∧x≠.b id∧x.base≠H.length):=fun x m0 h=>by
  by_cases h1:x=.b H.length
  · subst h1;rw [hM'n] at h;simp only [Option.some.injEq] at h;exact .inl ⟨rfl,h.symm⟩
  · by_cases h2:x=.b id
    · subst h2;rw [hM'i] at h;simp only [Option.some.injEq] at h;exact .inr (.inl ⟨rfl,h.symm⟩)
    · by_cases h3:∃ i,i<bx.xs.length∧x=.r H.length i (slotOf ty)
      · obtain ⟨i,a1,rfl⟩:=h3
        rw [hM'r i a1] at h;simp only [Option.some.injEq] at h
        exact .inr (.inr (.inl ⟨i,a1,rfl,h.symm⟩))
      · rw [hM'o x h1 h2 fun i a1 e=>h3 ⟨i,a1,e⟩] at h
        refine .inr (.inr (.inr ⟨h,h2,fun e=>?_⟩))
        rw [hR.none_of_base (by rw [e];exact Nat.le_refl _)] at h;cases h
 have hext:MExt M M':=fun x m0 h=>by
  by_cases h2:x=.b id
  · subst h2
    rw [hm] at h;simp only [Option.some.injEq] at h;subst h
    exact ⟨_,hM'i,.inr (Nat.lt_succ_self _)⟩
  · have hb0:x.base<H.length:=Nat.lt_of_not_le fun hle=>by rw [hR.none_of_base hle] at h;cases h
    refine ⟨m0,?_,.inl rfl⟩
    rw [hM'o x (fun e=>by rw [e] at hb0;exact Nat.lt_irrefl _ hb0) h2 fun i _ e=>by rw [e] at hb0;exact Nat.lt_irrefl _ hb0]
    exact h
 have hsrc:∀ x m',M' x=some m'→0<m'.cap→∃ y m0,M y=some m0∧m0.b=m'.b∧m0.cap=m'.cap∧(x=.b H.length∧y=.b id∨x=y∧y≠.b id):=fun x m' h h0=>by
  rcases hcase x m' h with ⟨rfl,rfl⟩|⟨rfl,rfl⟩|⟨i,_,rfl,rfl⟩|⟨a1,a2,_⟩
  · exact ⟨_,m,hm,rfl,rfl,.inl ⟨rfl,rfl⟩⟩
  · exact absurd h0 (by simp)
  · exact absurd h0 (by simp)
  · exact ⟨x,m',a1,rfl,rfl,.inr ⟨rfl,a2⟩⟩
 have hinj:∀ (x:Id) m1 x' m2,M' x=some m1→M' x'=some m2→0<m1.cap→0<m2.cap→m1.b=m2.b→x=x':=fun x m1 x' m2 h1 h2 c1 c2 he=>by
  obtain ⟨y,n1,a1,a2,a3,a4⟩:=hsrc x m1 h1 c1
  obtain ⟨y',n2,b1,b2,b3,b4⟩:=hsrc x' m2 h2 c2
  have:=hR.inj y y' n1 n2 a1 b1 (by omega) (by omega) (by rw [a2,b2,he])
  subst this
  rcases a4 with ⟨rfl,e1⟩|⟨rfl,e1⟩<;>rcases b4 with ⟨rfl,e2⟩|⟨rfl,e2⟩
  · rfl
  · exact absurd e1 e2
  · exact absurd e2 e1
  · rfl
 have hH0:(H.set id ⟨bx.ver+1,bx.sz,bx.ty,[],false,true⟩++[⟨0,bx.sz,ty,bx.xs.map (newRow ty bx.sz),false,true⟩])[id]?=some ⟨bx.ver+1,bx.sz,bx.ty,[],false,true⟩:=by
  rw [List.getElem?_append_left (by simpa using hn),List.getElem?_set_self hn]
 have hH1:(H.set id ⟨bx.ver+1,bx.sz,bx.ty,[],false,true⟩++[⟨0,bx.sz,ty,bx.xs.map (newRow ty bx.sz),false,true⟩])[H.length]?=some ⟨0,bx.sz,ty,bx.xs.map (newRow ty bx.sz),false,true⟩:=by
  rw [List.getElem?_append_right (by simp)];simp
 have hslot0:isSlot ty (slotOf ty)=true:=by unfold isSlot;rw [hC];exact Nat.beq_refl _
 have hg:∀ i,i<bx.xs.length→(bx.xs.map (newRow ty bx.sz)).getD i .top=newRow ty bx.sz (bx.xs.getD i .top):=fun i hi=>by
  simp [List.getD_eq_getElem?_getD,hi]
 have hc0:∀ {p:Prop},0<(0:Nat)→p:=fun h=>absurd h (by simp)
 have hoke:∀ i,i<bx.xs.length→(bx.xs.getD i .top).okElem bx.sz=true:=fun i hi=>by rw [hbat.sz];exact hbat.ok _ (xad hi)
 refine ⟨M',hR.rebuild (fun k=>k=id∨k=H.length) (fun k hk hlt=>?_) (fun x hx'=>hM'o x (fun e=>hx' (.inr (by rw [e];rfl))) (fun e=>hx' (.inl (by rw [e];rfl))) fun i _ e=>hx' (.inr (by rw [e];rfl))) (fun _ _ _ _ _=>⟨rfl,fun h=>h⟩) (fun _ _ _=>rfl) (Nat.le_refl _) (fun _ _ h=>h) hext (fun x m' hS hx'=>?_) (fun x m1 x' m2 _ h1 h2 c1 c2 he=>hinj x m1 x' m2 h1 h2 c1 c2 he) hR.lt,
  ⟨Nat.le_refl _,fun _ _ _=>rfl,fun _ _ h=>h,fun _ _ h _=>h,hext,⟨fun _ _ _=>rfl,fun x m' h h0=>?_⟩⟩,fun v len hv=>?_⟩
 · rw [List.getElem?_append_left (by simpa using hlt),List.getElem?_set_ne (fun e=>hk (.inl e.symm))]
 · rcases hcase x m' hx' with ⟨rfl,rfl⟩|⟨rfl,rfl⟩|⟨i,a1,rfl,rfl⟩|⟨a1,a2,a3⟩
   ·
    refine ⟨_,hH1,rfl,hbat.sz,by show rty ty=m.ty;rw [hty];exact hmt,hbat.capm,by simpa using hbat.fits,fun y hy=>?_,hbat.low,hbat.lt,fun h0=>?_,fun h0=>by have:=hbat.guard h0;rw [hfz] at this;exact this⟩
    · obtain ⟨y0,hy0,rfl⟩:=List.mem_map.1 hy
      rw [hbat.sz] at hs ⊢
      exact xcR hs (hbat.ok y0 hy0) rfl rfl
    · obtain ⟨c,c1,c2,c3⟩:=hbat.cells h0
      refine ⟨c,.of hnmm (c1.plain hnmm),c2,fun i j hi hj=>?_⟩
      simp only [List.length_map] at hi
      have h4:=c3 i j hi hj
      rw [xai hpl,xau hpl,hpm] at h4
      simp only [Id.base]
      rw [hg i hi,xcQ hs (hoke i hi) (by rw [hbat.sz];exact hj)]
      by_cases hjs:j=slotOf ty
      · subst hjs
        rw [if_pos rfl]
        rw [hnil _ (xad hi)] at h4
        have hv:c.getD (i*m.sz+slotOf ty) undef=.slice none 0 0:=by
         generalize c.getD (i*m.sz+slotOf ty) undef=u at h4
         cases h4;rfl
        show Rel w A (MV M' _ (slotOf ty)) (c.getD (i*m.sz+slotOf ty) undef) _
        unfold MV viewC
        simp only
        rw [hslot0,hv]
        exact .osl _ (.r H.length _ _) _ _ _ _ (hM'r _ hi) (Nat.le_refl _) rfl fun _=>⟨Nat.le_refl _,none,rfl,fun h=>absurd h (by simp)⟩
      · have hsl:isSlot ty j=false:=by
         cases hq:isSlot ty j with
         | false=>rfl
         | true=>exact absurd (xfl hq) hjs
        rw [if_neg hjs]
        unfold MV viewC
        simp only
        rw [hsl]
        exact h4.mono (fun _ _ _=>rfl) (Nat.le_refl _) (fun _ _ h=>h) (MExt.refl _)
   ·
    exact ⟨⟨bx.ver+1,bx.sz,bx.ty,[],false,true⟩,by rw [xaK];exact hH0,by show bx.ver+1=m.ver+1;rw [hbat.ver],hbat.sz,by rw [xal hpl];exact hmt,Nat.zero_le _,Nat.zero_le _,fun y hy=>by simp at hy,hc0,hc0,hc0,hc0⟩
   ·
    refine ⟨⟨0,rowSz ty,rowTy ty,[],false,true⟩,?_,rfl,rfl,xal (xaC _),Nat.zero_le _,Nat.zero_le _,fun y hy=>by simp at hy,hc0,hc0,hc0,hc0⟩
    rw [xbw hH1 hC hslot0 rfl (by simpa using a1)]
    simp only
    rw [hg i a1,xcQ hs (hoke i a1) hs,if_pos rfl]
    rfl
   ·
    have hx0:x.base=id:=by
     rcases hS with h|h
     · exact h
     · exact absurd h a3
    obtain ⟨rb,k1,k2⟩:=hR.box x m' a1
    cases x with
    | b k=>simp only [Id.base] at hx0;subst hx0;exact absurd rfl a2
    | r k i j =>
     simp only [Id.base] at hx0
     subst hx0
     rw [xbG hb hpl] at k1
     exact ⟨rb,by rw [xbG hH0 hpl];exact k1,k2.mono (fun _=>rfl) (fun _ _ _=>rfl) (Nat.le_refl _) (fun _ _ h=>h) k2.guard hext⟩
 · obtain ⟨y,m0,a1,a2,a3,_⟩:=hsrc x m' h h0
   exact .inl ⟨y,m0,a1,by omega,a2.symm⟩
 · obtain ⟨m1,b1,b2,b3,b4⟩:=Rel.osl_inv hv
   rw [hm] at b1
   simp only [Option.some.injEq] at b1
   subst b1
   obtain ⟨e1,a,e2,e3⟩:=b4 hbat.ver
   exact .osl v (.b H.length) 0 0 len _ hM'n (Nat.le_refl _) b3 fun _=>⟨e1,a,e2,e3⟩
theorem HR.convH (hR:HR w A M B H) (sz:Nat) (ty:TypeId) (id:Nat):∃ M',HR w A M' B (Sim.convH sz ty id H)∧Mv w A M w A M':=by
 unfold Sim.convH
 split
 · rename_i bx hb
   split
   · rename_i hpl
     split
     · rename_i c hx
       split
       · split
         · exact ⟨M,hR,Mv.refl⟩
         · split
           · rename_i hs
             exact hR.cellnil ty hb hpl hx (Nat.eq_of_beq_eq_true hs)
           · exact ⟨M,hR,Mv.refl⟩
       · exact ⟨M,hR.shrH _ _ _,Mv.refl⟩
       · exact ⟨M,hR,Mv.refl⟩
     · exact ⟨M,hR,Mv.refl⟩
   · exact ⟨M,hR,Mv.refl⟩
 · exact ⟨M,hR,Mv.refl⟩
end
def markC (ty:TypeId) (id ver off:Nat) (H:List Box):Option (List Box):=match H[id]? with
 | some bx=>match !(isC bx.ty)&&isC ty&&!(isMapT ty)&&Nat.beq (rty ty) bx.ty&&!bx.frz&&bx.pm&&Nat.blt (slotOf ty) bx.sz&&Nat.beq bx.ver ver&&Nat.beq off 0&&bx.xs.all (fun y=>isNils (y.cells.getD (slotOf ty) .top)) with
  | true=>some (H.set id ⟨bx.ver+1,bx.sz,bx.ty,[],false,true⟩++[⟨0,bx.sz,ty,bx.xs.map (newRow ty bx.sz),false,true⟩])
  | false=>none
 | none=>none
def convs:List (Nat×Nat×TypeId)→List AV→List Box→List AV×List Box
 | [],ts,H=>(ts,H)
 | (t,sz,ty)::cs,ts,H=>match Nat.beq ty 1073741824 with
  | true=>match ts.getD t .top with
   | .nils=>convs cs (ts.set t (.list sz [])) H
   | .osl (.b id) ver off len=>match resolve H rfuel (.osl (.b id) ver off len) with
    | some y=>convs cs (ts.set t y) (freeze H (reach H rfuel (.osl (.b id) ver off len)))
    | none=>convs cs ts H
   | _=>convs cs ts H
  | false=>match ts.getD t .top with
   | .nils=>convs cs (ts.set t (.osl H.length 0 0 0)) (H++[⟨0,sz,ty,[],false,true⟩])
   | .own (.b id) _ _ _=>convs cs ts (convH sz ty id H)
   | .osl (.b id) ver off len=>match markC ty id ver off H with
    | some H1=>convs cs (ts.set t (.osl (.b H.length) 0 0 len)) H1
    | none=>convs cs ts (shrH sz id len H)
   | _=>convs cs ts H
def normS (pin:Nat) (conv:List (Nat×Nat×TypeId)) (live:List Nat) (s:St):Option (List AV×List Box) :=
 let c:=convs conv s.tmps s.heap
 let ids:=gather c.2 1000 (List.range pin++refsOf.refsL (liveOf live c.1)) []
 match nodupB ids&&pinsOk pin 0 ids with
 | true=>match normH pin (normF pin ids c.2) c.2 0 ids with
  | some H'=>some (rens (normF pin ids c.2) (liveOf live c.1),H')
  | none=>none
 | false=>none
theorem xfD (f:Nat→Nat→Option (Nat×Nat)) (ts:List AV):∀ live:List Nat,rens f (liveOf live ts)=liveOf live (rens f ts)
 | []=>rfl
 | t::live=>by
  have:=xfD f ts live
  simp only [liveOf] at this
  simp only [liveOf,List.map_cons,rens,xbI,this]
theorem SR.conv1 {w0 w:World} {A0:Cx} {A:Nat→Prop} {M:Id→Option MB} {ts:List AV} {H:List Box} {a:Act} (h:SR w0 A0 w A M ⟨ts,H⟩ a) {t sz:Nat} {ty:TypeId} (ht:ts.getD t .top=.nils) :
  ∃ M',SR w0 A0 w A M' ⟨ts.set t (.osl H.length 0 0 0),H++[⟨0,sz,ty,[],false,true⟩]⟩ a:=by
 obtain ⟨g1,g2,g3⟩:=h.heap.virt sz ty true
 refine ⟨_,h.base,h.outer,by simp [h.size],fun t' ht'=>?_,g1,h.defers,h.ev.step g2⟩
 simp only [List.length_set] at ht'
 have h1:=g2.rel (h.tmps t' ht')
 by_cases hd:t=t'
 · subst hd
   simp only [xbe ht']
   rw [ht] at h1
   generalize a.tmps.getD t undef=v at h1
   cases h1
   exact g3 none
 · simp only [xbf hd];exact h1
theorem SR.mark {w0 w:World} {A0:Cx} {A:Nat→Prop} {M:Id→Option MB} {ts:List AV} {H:List Box} {a:Act} (h:SR w0 A0 w A M ⟨ts,H⟩ a) {t id ver off len:Nat} {ty:TypeId} {H1:List Box} (ht:ts.getD t .top=.osl (.b id) ver off len) (hm:markC ty id ver off H=some H1) :
  ∃ M',SR w0 A0 w A M' ⟨ts.set t (.osl (.b H.length) 0 0 len),H1⟩ a:=by
 unfold markC at hm
 split at hm
 case h_2=>simp at hm
 rename_i bx hb
 split at hm
 case h_2=>simp at hm
 rename_i hc
 simp only [Option.some.injEq] at hm
 subst hm
 simp only [Bool.and_eq_true,Bool.not_eq_true',List.all_eq_true] at hc
 obtain ⟨⟨⟨⟨⟨⟨⟨⟨⟨c1,c2⟩,c3⟩,c4⟩,c5⟩,c6⟩,c7⟩,c8⟩,c9⟩,c10⟩:=hc
 have e8:=Nat.eq_of_beq_eq_true c8
 have e9:=Nat.eq_of_beq_eq_true c9
 subst e8 e9
 have hlt:t<ts.length:=by
  by_cases hlt:t<ts.length
  · exact hlt
  · rw [xfi (Nat.le_of_not_lt hlt)] at ht;cases ht
 have hr:=h.tmps t hlt
 simp only at hr
 rw [ht] at hr
 obtain ⟨m,hmm,_⟩:=Rel.osl_inv hr
 obtain ⟨M',g1,g2,g3⟩:=h.heap.mark hmm hb c1 c2 c3 (Nat.eq_of_beq_eq_true c4) c5 c6 (xlm c7) (fun y hy=>by
  have:=c10 y hy
  generalize y.cells.getD (slotOf ty) .top=z at this
  cases z<;>first|rfl|(simp [isNils] at this))
 refine ⟨M',h.base,h.outer,by simp [h.size],fun t' ht'=>?_,g1,h.defers,h.ev.step g2⟩
 simp only [List.length_set] at ht'
 by_cases hd:t=t'
 · subst hd
   simp only [xbe ht']
   exact g3 _ _ hr
 · simp only [xbf hd];exact g2.rel (h.tmps t' ht')
theorem SR.convs {w0 w:World} {A0:Cx} {a:Act}:∀ (cs:List (Nat×Nat×TypeId)) {A:Nat→Prop} {M:Id→Option MB} {ts:List AV} {H:List Box},SR w0 A0 w A M ⟨ts,H⟩ a→∃ A' M',SR w0 A0 w A' M' ⟨(Sim.convs cs ts H).1,(Sim.convs cs ts H).2⟩ a
 | [],A,M,_,_,h=>⟨A,M,h⟩
 | (t,sz,ty)::cs,A,M,ts,H,h=>by
  unfold Sim.convs
  split
  · split
    · rename_i ht
      refine SR.convs cs (A:=A) (M:=M) ⟨h.base,h.outer,by simp [h.size],fun t' ht'=>?_,h.heap,h.defers,h.ev⟩
      simp only [List.length_set] at ht'
      have h1:=h.tmps t' ht'
      by_cases hd:t=t'
      · subst hd
        simp only [xbe ht']
        rw [ht] at h1
        generalize a.tmps.getD t undef=v at h1
        cases h1
        exact .list0 _ _ _
      · simp only [xbf hd];exact h1
    · rename_i id ver off len ht
      split
      · rename_i y hy
        obtain ⟨A1,h1,_⟩:=h.settle (s1:=⟨ts.set t y,freeze H (reach H rfuel (.osl (.b id) ver off len))⟩) ⟨_,rfl,by simp,fun t'=>by
         by_cases hd:t=t'
         · subst hd
           by_cases hlt:t<ts.length
           · right
             simp only [xbe hlt]
             rw [ht]
             exact ⟨hy,fun _ h=>h⟩
           · left
             simp only [List.set_eq_of_length_le (Nat.le_of_not_lt hlt)]
         · left
           simp only [xbf hd]⟩
        exact SR.convs cs h1
      · exact SR.convs cs h
    · exact SR.convs cs h
  · split
    · rename_i ht
      obtain ⟨M',h'⟩:=h.conv1 (sz:=sz) (ty:=ty) ht
      exact SR.convs cs h'
    · obtain ⟨M',h1,h2⟩:=h.heap.convH sz ty (id:=_)
      exact SR.convs cs ⟨h.base,h.outer,h.size,fun t' ht'=>h2.rel (h.tmps t' ht'),h1,h.defers,h.ev.step h2⟩
    · rename_i ht
      split
      · rename_i H1 hm
        obtain ⟨M',h'⟩:=h.mark ht hm
        exact SR.convs cs h'
      · exact SR.convs cs ⟨h.base,h.outer,h.size,h.tmps,h.heap.shrH sz _ _,h.defers,h.ev⟩
    · exact SR.convs cs h
def Weak (p:Nat) (s s':St):Prop:=∀ (w0:World) (A0:Cx) (w:World) (A:Nat→Prop) (M:Id→Option MB) (a:Act),A0.pin≤p→SR w0 A0 w A M s a→∃ A' M',SR w0 A0 w A' M' s' a
theorem Weak.refl (p:Nat) (s:St):Weak p s s:=fun _ _ _ A M _ _ h=>⟨A,M,h⟩
theorem xgA {pin:Nat} {conv:List (Nat×Nat×TypeId)} {live:List Nat} {s:St} {vals:List AV} {H':List Box} (h:normS pin conv live s=some (vals,H')):Weak pin s ⟨mkTs s.tmps.length (live.zip vals),H'⟩:=by
 intro w0 A0 w A M a hp hs
 obtain ⟨A1,M1,h1⟩:=SR.convs conv hs
 unfold normS at h
 simp only at h
 generalize Sim.convs conv s.tmps s.heap=c at h h1
 generalize gather c.2 1000 (List.range pin++refsOf.refsL (liveOf live c.1)) []=ids at h
 split at h
 case h_2=>simp at h
 rename_i hc
 simp only [Bool.and_eq_true] at hc
 split at h
 case h_2=>simp at h
 rename_i H1 hH
 simp only [Option.some.injEq,Prod.mk.injEq] at h
 obtain ⟨rfl,rfl⟩:=h
 obtain ⟨M2,g1,g2,g3,g4⟩:=h1.heap.norm hc.1 hc.2 hH
 have hlen:c.1.length=s.tmps.length:=by rw [←h1.size,hs.size]
 refine ⟨A1,M2,h1.base,h1.outer,by rw [xci,←hlen];exact h1.size,fun t ht=>?_,g1,h1.defers,h1.ev.norm hp g3 g4⟩
 simp only [xfD]
 rcases xhy s.tmps.length (rens (normF pin ids c.2) c.1) (by rw [xao];exact hlen) t live with e|e
 · rw [e,xbI]
   simp only [xci] at ht
   exact (h1.tmps t (by simp only [];omega)).ren g2
 · rw [e];exact .top _
def Does (P:Program) (Inv:IV) (c:Code) (Q:Exit→St→Prop) (s:St):Prop :=
 ∀ (w0:World) (A0:Cx) (w:World) (A:Nat→Prop) (M:Id→Option MB) (a:Act) (Qc:Exit→Act→World→Prop),Inv w0→A0.pin≤Inv.pin→SR w0 A0 w A M s a→(∀ e s' a' w',Q e s'→SOk w0 A0 s' a' w'→Qc e a' w')→c.wp P Qc a w
section rules
variable {P : Program} {Inv : IV} {Q : Exit → St → Prop} {s : St}
theorem xbJ {c:Code} {Q':Exit→St→Prop} (h:Does P Inv c Q s) (hq:∀ e s,Q e s→Q' e s):Does P Inv c Q' s :=
 fun w0 A0 w A M a Qc hI hp hs hQ=>h w0 A0 w A M a Qc hI hp hs fun e s' a' w' hqs=>hQ e s' a' w' (hq e s' hqs)
theorem xlH (h:Q .normal s):Does P Inv .skip Q s:=fun w0 A0 w A M a Qc hI hp hs hQ=>wp_skip (hQ _ _ _ _ h ⟨A,M,hs⟩)
theorem xlG {id:Nat} (h:Q (.exit id) s):Does P Inv (.exit id) Q s:=fun w0 A0 w A M a Qc hI hp hs hQ=>wp_exit (hQ _ _ _ _ h ⟨A,M,hs⟩)
theorem xmi (h:Q .ret s):Does P Inv .ret Q s:=fun w0 A0 w A M a Qc hI hp hs hQ=>wp_ret (hQ _ _ _ _ h ⟨A,M,hs⟩)
def thenQ (next:St→Prop) (Q:Exit→St→Prop):Exit→St→Prop
 | .normal,s=>next s
 | e,s=>Q e s
def blockQ (id:Nat) (Q:Exit→St→Prop):Exit→St→Prop
 | .exit id',s=>if id'=id then Q .normal s else Q (.exit id') s
 | e,s=>Q e s
theorem xmj {x y:Code} (h:Does P Inv x (thenQ (Does P Inv y Q) Q) s):Does P Inv (.seq x y) Q s:=fun w0 A0 w A M a Qc hI hp hs hQ =>
 wp_seq (h w0 A0 w A M a _ hI hp hs fun e s' a' w' hq hok=>by
  cases e with
  | normal=>obtain ⟨A',M',hs'⟩:=hok;exact hq w0 A0 w' A' M' a' Qc hI hp hs' hQ
  | _=>exact hQ _ _ _ _ hq hok)
theorem xla {id:Nat} {c:Code} (h:Does P Inv c (blockQ id Q) s):Does P Inv (.block id c) Q s:=fun w0 A0 w A M a Qc hI hp hs hQ =>
 wp_block (h w0 A0 w A M a _ hI hp hs fun e s' a' w' hq hok=>by
  cases e with
  | exit id' =>
   simp only [blockQ] at hq
   simp only [Exit.inBlock]
   split<;>rename_i hid<;>simp only [hid,if_true,if_false] at hq
   · exact hQ _ _ _ _ hq hok
   · exact hQ _ _ _ _ hq hok
  | _=>exact hQ _ _ _ _ hq hok)
theorem xlF {c:Operand} {x y:Code} {t:Bool} (hc:s.eval c=.bool t) (ht:t=true→Does P Inv x Q s) (hf:t=false→Does P Inv y Q s):Does P Inv (.cond c x y) Q s:=fun w0 A0 w A M a Qc hI hp hs hQ=>by
 have:=hs.eval c
 rw [hc] at this
 exact wp_cond_split this.bool_inv (fun h=>ht h w0 A0 w A M a Qc hI hp hs hQ) (fun h=>hf h w0 A0 w A M a Qc hI hp hs hQ)
theorem xjx (hIo:InvOk Inv) {id:Nat} {ops:Array Oper} {s':St} (hp:Path (OpA P Inv) ops ops.toList s s') (h:Q .normal s'):Does P Inv (.region id ops false) Q s:=fun w0 A0 w A M a Qc hI _ hs hQ =>
 xjU hIo hI hp hs fun a' w' hok=>hQ _ _ _ _ h hok
theorem xf9 (hmx:P.follows .mixedOrders=true) (hIo:InvOk Inv) {id:Nat} {ops:Array Oper} {s1 s':St} {wf:Bool} (m:Nat) (hok:regOk wf ops m=true) (hm:m≤ops.size) (hF:Path (OpF P Inv) ops (ops.toList.take m) s s1) (hT:TPath P Inv ops m m (ops.toList.drop m) s1 s') (hck:∀ i o,i<m→ops[i]?=some o→isFloat wf ops m i=true→ptrOk s1.eval o.op=true) (h:Q .normal s'):Does P Inv (.region id ops true) Q s:=fun w0 A0 w A M a Qc hI _ hs hQ =>
 xiX hmx hIo hI hok hm hF hT hck hs fun a' w' hok=>hQ _ _ _ _ h hok
def DoesL (P:Program) (Inv:IV) (c:Code) (Q:Exit→St→Prop) (s:St):Prop :=
 ∀ (w0:World) (A0:Cx) (w:World) (A:Nat→Prop) (M:Id→Option MB) (a:Act) (Qc:Exit→Act→World→Prop),Inv w0→A0.pin≤Inv.pin→SR w0 A0 w A M s a→(∀ e s' a' w',Q e s'→SOk w0 A0 s' a' w'→Qc e a' w') →
  ∀ (b:Frame) (k:List Item) (cs:List Frame),∃ e a' w',Qc e a' w'∧Arrives P (lone (b.at a (.code c::.inLoop c::k)) cs w) b k cs e a' w'
theorem xhO {c:Code} {Q':Exit→St→Prop} (h:DoesL P Inv c Q s) (hq:∀ e s,Q e s→Q' e s):DoesL P Inv c Q' s :=
 fun w0 A0 w A M a Qc hI hp hs hQ=>h w0 A0 w A M a Qc hI hp hs fun e s' a' w' hqs=>hQ e s' a' w' (hq e s' hqs)
theorem xjl {c:Code} (h:DoesL P Inv c Q s):Does P Inv (.loop c) Q s:=fun w0 A0 w A M a Qc hI hp hs hQ=>by
 intro b k cs
 obtain ⟨e,a',w',hq,harr⟩:=h w0 A0 w A M a Qc hI hp hs hQ b k cs
 exact ⟨e,a',w',hq,.of_steps (.one step_loop) harr⟩
theorem xjZ {c:Code} (h:Does P Inv c (thenQ (DoesL P Inv c Q) Q) s):DoesL P Inv c Q s:=fun w0 A0 w A M a Qc hI hp hs hQ=>by
 intro b k cs
 obtain ⟨e,a₁,w₁,hq,harr⟩:=h w0 A0 w A M a (fun e a' w'=>match e with|.normal=>∃ s',DoesL P Inv c Q s'∧SOk w0 A0 s' a' w'|e=>Qc e a' w') hI hp hs (fun e s' a' w' hq hok=>by
  cases e with
  | normal=>exact ⟨s',hq,hok⟩
  | _=>exact hQ _ _ _ _ hq hok) b (.inLoop c::k) cs
 cases e with
 | normal =>
  obtain ⟨s',k1,A',M',hs'⟩:=hq
  obtain ⟨e₂,a₂,w₂,hq₂,harr₂⟩:=k1 w0 A0 w₁ A' M' a₁ Qc hI hp hs' hQ b k cs
  exact ⟨e₂,a₂,w₂,hq₂,.of_steps (Steps.trans harr (.one step_inLoop)) harr₂⟩
 | exit id=>exact ⟨_,a₁,w₁,hq,.pass (x:=.inLoop c) rfl (fun _ _=>.inl (by simp)) harr⟩
 | goto l=>exact ⟨_,a₁,w₁,hq,.pass (x:=.inLoop c) rfl (fun _ _=>.inl (by simp)) harr⟩
 | ret=>exact ⟨_,a₁,w₁,hq,.pass (x:=.inLoop c) rfl (fun _ _=>.inl (by simp)) harr⟩
 | panic ch=>exact ⟨_,a₁,w₁,hq,.pass (x:=.inLoop c) rfl (fun _ _=>.inl (by simp)) harr⟩
 | outgrown=>exact ⟨_,a₁,w₁,hq,.pass (x:=.inLoop c) rfl (fun _ _=>.inl (by simp)) harr⟩
theorem xhP {c:Code} (I:Nat→St→Prop) {n0:Nat} {s0:St} (hw:Weak Inv.pin s s0) (h1:I n0 s0)
  (round:∀ n s,I n s→Does P Inv c (thenQ (fun s'=>∃ n' s'',n'<n∧Weak Inv.pin s' s''∧I n' s'') Q) s):DoesL P Inv c Q s:=fun w0 A0 w A M a Qc hI hp hs hQ=>by
 intro b k cs
 have key:∀ n s,I n s→∀ w A M a,SR w0 A0 w A M s a→∃ e a' w',Qc e a' w'∧Arrives P (lone (b.at a (.code c::.inLoop c::k)) cs w) b k cs e a' w':=by
  intro n
  induction n using Nat.strongRecOn with
  | _ n ih =>
   intro s hIs w A M a hs
   obtain ⟨e,a₁,w₁,hq,harr⟩:=round n s hIs w0 A0 w A M a (fun e a' w'=>match e with|.normal=>∃ n' s'',n'<n∧I n' s''∧SOk w0 A0 s'' a' w'|e=>Qc e a' w') hI hp hs (fun e s' a' w' hq hok=>by
    cases e with
    | normal =>
     obtain ⟨A',M',hs'⟩:=hok
     obtain ⟨n',s'',k1,k2,k3⟩:=hq
     obtain ⟨A'',M'',hs''⟩:=k2 w0 A0 w' A' M' a' hp hs'
     exact ⟨n',s'',k1,k3,A'',M'',hs''⟩
    | _=>exact hQ _ _ _ _ hq hok) b (.inLoop c::k) cs
   cases e with
   | normal =>
    obtain ⟨n',s'',k1,k2,A',M',hs''⟩:=hq
    obtain ⟨e₂,a₂,w₂,hq₂,harr₂⟩:=ih n' k1 s'' k2 w₁ A' M' a₁ hs''
    exact ⟨e₂,a₂,w₂,hq₂,.of_steps (Steps.trans harr (.one step_inLoop)) harr₂⟩
   | exit id=>exact ⟨_,a₁,w₁,hq,.pass (x:=.inLoop c) rfl (fun _ _=>.inl (by simp)) harr⟩
   | goto l=>exact ⟨_,a₁,w₁,hq,.pass (x:=.inLoop c) rfl (fun _ _=>.inl (by simp)) harr⟩
   | ret=>exact ⟨_,a₁,w₁,hq,.pass (x:=.inLoop c) rfl (fun _ _=>.inl (by simp)) harr⟩
   | panic ch=>exact ⟨_,a₁,w₁,hq,.pass (x:=.inLoop c) rfl (fun _ _=>.inl (by simp)) harr⟩
   | outgrown=>exact ⟨_,a₁,w₁,hq,.pass (x:=.inLoop c) rfl (fun _ _=>.inl (by simp)) harr⟩
 obtain ⟨A',M',hs'⟩:=hw w0 A0 w A M a hp hs
 exact key n0 s0 h1 w A' M' a hs'
theorem xlb {c:Code} (I:Nat→St→Prop) {n0:Nat} {s0:St} (hw:Weak Inv.pin s s0) (h1:I n0 s0)
 (round:∀ n s,I n s→Does P Inv c (thenQ (fun s'=>∃ n' s'',n'<n∧Weak Inv.pin s' s''∧I n' s'') Q) s):Does P Inv (.loop c) Q s:=xjl (xhP I hw h1 round)
end rules
def resVal (P:Program) (s:St):ResultVar→Option AV
 | .tmp t=>some (s.tmps.getD t .top)
 | .cell a t=>match tinfo P t with
  | some ti=>absLoadAt s.heap ti (s.tmps.getD a .top)
  | none=>none
def resAll (P:Program) (s:St):List ResultVar→Option (List AV)
 | []=>some []
 | r::rs=>match resVal P s r,resAll P s rs with
  | some x,some xs=>match resolve s.heap rfuel x with
   | some y=>some (y::xs)
   | none=>none
  | _,_=>none
def oneOrTuple:List AV→AV
 | [x]=>x
 | xs=>.tuple xs
def resultOf (P:Program) (rs:List ResultVar) (s:St):Option AV :=
 match resAll P s rs with
 | some xs=>some (oneOrTuple xs)
 | none=>none
def resF (tmps:Array Value):ResultVar→Go.Sem Value
 | .tmp t=>pure (tmps.getD t undef)
 | .cell b t=>do loadVar t (←asAddr (tmps.getD b undef))
theorem xgO (fn:Func) (tmps:Array Value):results fn tmps=(do let vs ←fn.results.mapM (resF tmps);pure (if h:vs.size=1 then vs[0] else .tuple vs)):=by
 unfold results
 congr 1
section
variable {P : Program} {Inv : IV}
theorem xgN {w0 w:World} {A0:Cx} {A:Nat→Prop} {M:Id→Option MB} {s:St} {a:Act} (hs:SR w0 A0 w A M s a) {r:ResultVar} {x:AV} (h:resVal P s r=some x) :
  ∃ v,(resF a.tmps r).run P w=.ok v w∧Rel w A M v x:=by
 cases r with
 | tmp t =>
  simp only [resVal,Option.some.injEq] at h
  have:=hs.eval (.tmp t)
  simp only [St.eval,Act.eval] at this
  rw [h] at this
  exact ⟨_,rfl,this⟩
 | cell b t =>
  simp only [resVal] at h
  split at h
  case h_2=>simp at h
  rename_i ti hti
  have hb:=hs.eval (.tmp b)
  simp only [St.eval,Act.eval] at hb
  obtain ⟨u,hu,hru⟩:=xe0 hti hs.heap hb h
  refine ⟨u,?_,hru⟩
  have hp:∃ ad,a.tmps.getD b undef=.pointer (some ad):=by
   unfold absLoadAt at h
   split at h
   · rename_i hx;rw [hx] at hb;obtain ⟨b',o',e,_⟩:=xdD hb;exact ⟨_,e⟩
   · rename_i id ver i j hx
     rw [hx] at hb
     split at h
     case h_2=>simp at h
     rename_i bx hbx
     obtain ⟨m,_,_,e⟩:=xcV hs.heap hb hbx
     exact ⟨_,e⟩
   · simp at h
  obtain ⟨ad,hp⟩:=hp
  show (do loadVar t (←asAddr (a.tmps.getD b undef)):Go.Sem Value).run P w=_
  rw [hp] at hu ⊢
  simpa [Instr.loadAt,Instr.sureAddr,asAddr] using hu
theorem xgL {w0 w:World} {A0:Cx} {A:Nat→Prop} {M:Id→Option MB} {s:St} {a:Act} (hs:SR w0 A0 w A M s a) (hA0:∀ b,A0.av b→b<w0.heap.size):∀ {rs:List ResultVar} {xs:List AV},resAll P s rs=some xs →
  ∃ vs,(rs.mapM (resF a.tmps)).run P w=.ok vs w∧RC w A0.av noBox vs xs
 | [],xs,h=>by
  simp only [resAll,Option.some.injEq] at h;subst h
  exact ⟨[],by simp,rfl,by simp⟩
 | r::rs,xs,h=>by
  unfold resAll at h
  split at h
  case h_2=>simp at h
  rename_i x ys hx hys
  split at h
  case h_2=>simp at h
  rename_i y hy
  simp only [Option.some.injEq] at h;subst h
  obtain ⟨v,hv,hrv⟩:=xgN hs hx
  obtain ⟨vs,hvs,hrc⟩:=xgL hs hA0 hys
  refine ⟨v::vs,?_,?_⟩
  · rw [List.mapM_cons]
    simp only [Sem.run_bind,hv,hvs,Result.andThen_ok,Sem.run_pure]
  · have hy':Rel w A0.av noBox v y:=xa3 hs.heap (fun b hb h=>(hs.outer b (hA0 b h)).2 h) rfuel v x y hrv hy fun id _ m hm hc0 hA=>by
     obtain ⟨bx,_,hbat⟩:=hs.heap.box id m hm
     have:=hbat.low hc0
     have:=hA0 _ hA
     omega
    refine ⟨by simp [hrc.1],fun i hi=>?_⟩
    cases i with
    | zero=>simpa using hy'
    | succ i=>have:=hrc.2 i (by simp at hi;omega);simpa using this
theorem xix {w0 w:World} {A0:Cx} {A:Nat→Prop} {M:Id→Option MB} {s:St} {a:Act} (hs:SR w0 A0 w A M s a) (hA0:∀ b,A0.av b→b<w0.heap.size) {fn:Func} {r:AV} (h:resultOf P fn.results.toList s=some r) :
  ∃ v,(results fn a.tmps).run P w=.ok v w∧Rel w A0.av noBox v r:=by
 unfold resultOf at h
 split at h
 case h_2=>simp at h
 rename_i xs hxs
 simp only [Option.some.injEq] at h;subst h
 obtain ⟨vs,hvs,hrc⟩:=xgL (P:=P) hs hA0 hxs
 refine ⟨if h:vs.toArray.size=1 then vs.toArray[0] else .tuple vs.toArray,?_,?_⟩
 · rw [xgO,Array.mapM_eq_mapM_toList]
   simp only [Sem.run_bind,Sem.run_map,hvs,Result.andThen_ok,Sem.run_pure]
 · have hl:=hrc.1
   have hr:=hrc.2
   match vs,xs,hl,hr with
   | [v],[x],_,hr=>simpa [oneOrTuple] using hr 0 (by simp)
   | [],[],_,_=>simpa [oneOrTuple] using Rel.tuple (w:=w) (A:=A0.av) (M:=noBox) #[] [] rfl (by simp)
   | v1::v2::vs,x1::x2::xs,hl,hr =>
    have hne:¬ (v1::v2::vs).toArray.size=1:=by simp
    rw [dif_neg hne]
    simp only [oneOrTuple]
    refine .tuple _ _ (by simpa using hl) fun i hi=>?_
    rw [xbi]
    exact hr i hi
theorem xl0 (hIo:InvOk Inv) {f:FuncId} {fn:Func} {c:Code} {args:List AV} {r:AV} (hf:P.funcs[f]?=some fn) (hb:fn.body=some c) (hname:(fn.name == "runtime.NumGoroutine")=false)
  (h:Does P Inv c (fun e s=>(e=.ret∨e=.normal)∧resultOf P fn.results.toList s=some r) ⟨args++List.replicate (fn.ntmps - args.length) (.tuple []),[]⟩):Good P Inv f args r:=by
 refine ⟨⟨fn,hf,by rw [hb];rfl,hname⟩,fun w A vs hI hA hrc=>?_⟩
 refine calls_of_wp hf hb ?_
 refine h w ⟨A,w,A,noBox,0⟩ w A noBox _ _ hI (Nat.zero_le _) ⟨Below.refl _ _,fun _ _=>Iff.rfl,?_,fun t ht=>?_,⟨fun id m hm=>by simp [noBox] at hm,fun _ _ _ _ h=>by simp [noBox] at h,hA⟩,rfl,Ev.refl (C:=⟨A,w,A,noBox,0⟩)⟩ ?_
 · simp [hrc.1]
 · simp only [List.length_append,List.length_replicate] at ht
   have hl:=hrc.1
   by_cases hta:t<args.length
   · have e1:(vs.toArray++Array.replicate (fn.ntmps - vs.toArray.size) undef).getD t undef=vs.getD t undef:=by
      have:t<vs.length:=by omega
      simp [List.getD_eq_getElem?_getD,Array.getElem?_append,this]
     have e2:(args++List.replicate (fn.ntmps - args.length) (AV.tuple [])).getD t .top=args.getD t .top:=by
      simp [List.getD_eq_getElem?_getD,List.getElem?_append,hta]
     rw [e1,e2];exact hrc.2 t hta
   · have h1:¬ t<vs.length:=by omega
     have e1:(vs.toArray++Array.replicate (fn.ntmps - vs.toArray.size) undef).getD t undef=undef:=by
      have h2:t - vs.length<fn.ntmps - vs.length:=by omega
      simp [Array.getElem?_append,h1,h2]
     have e2:(args++List.replicate (fn.ntmps - args.length) (AV.tuple [])).getD t .top=.tuple []:=by
      have h2:t - args.length<fn.ntmps - args.length:=by omega
      simp [List.getD_eq_getElem?_getD,List.getElem?_append,hta,h2]
     rw [e1,e2]
     exact .tuple #[] [] rfl (by simp)
 · rintro e s' a' w' ⟨he,hr⟩ ⟨A',M',hs'⟩
   obtain ⟨v,hv,hrel⟩:=xix (P:=P) hs' hA hr
   have:bodyPost P fn (fun e w'=>∃ v,e=.returned v∧Below w.heap.size w w'∧Rel w' A noBox v r) .ret a' w':=⟨hs'.defers,v,hv,v,rfl,hs'.base,hrel⟩
   rcases he with rfl|rfl<;>exact this
end
end Go.Sim
namespace Go.Sim
open Go.RowKit
def both (t:Bool) (a b:Prop):Prop:=(t=true→a)∧(t=false→b)
def CallK (P:Program) (Inv:IV) (s:St) (c:Call) (d:Option Tmp) (K:St→Prop):Prop :=
 ∃ s',(OpF P Inv s ⟨d,.call c,0, "",#[],none⟩ s'∨OpI P Inv s ⟨d,.call c,0, "",#[],none⟩ s')∧K s'
def CallF (P:Program) (Inv:IV) (s:St) (c:Call) (d:Option Tmp) (K:St→Prop):Prop :=
 ∃ s',OpF P Inv s ⟨d,.call c,0, "",#[],none⟩ s'∧K s'
def fstep (P:Program) (o:Oper) (s:St) (K:St→Prop):Prop :=
 match fop P s.eval s.heap s.heap.length o.op with
 | some (x,nb)=>K ⟨putT s.tmps o.dst x,s.heap++nb.toList⟩
 | none=>False
def istep (P:Program) (o:Oper) (s:St) (K:St→Prop):Prop :=
 match iop P s.eval s.heap o.op with
 | some (x,H)=>K ⟨putT s.tmps o.dst x,H⟩
 | none=>False
def isImp:Op→Bool
 | .store _ _ _=>true
 | .call c=>match c.callee with
  | .builtin .append=>true
  | .builtin .clear=>true
  | _=>false
 | .lookup _ _ _ _=>true
 | .mapUpdate _ _ _ _=>true
 | .makeMap _ _=>true
 | _=>false
def stepF (P:Program) (Inv:IV) (o:Oper) (s:St) (K:St→Prop):Prop :=
 match o.op with
 | .pick c a b=>match s.eval c with
  | .bool t=>both t (K ⟨putT s.tmps o.dst (s.eval a),s.heap⟩) (K ⟨putT s.tmps o.dst (s.eval b),s.heap⟩)
  | _=>False
 | .call c=>match c.callee with
  | .value _=>CallF P Inv s c o.dst K
  | _=>fstep P o s K
 | _=>fstep P o s K
def stepA (P:Program) (Inv:IV) (o:Oper) (s:St) (K:St→Prop):Prop :=
 match o.op with
 | .pick c a b=>match s.eval c with
  | .bool t=>both t (K ⟨putT s.tmps o.dst (s.eval a),s.heap⟩) (K ⟨putT s.tmps o.dst (s.eval b),s.heap⟩)
  | _=>False
 | .call c=>match c.callee with
  | .value _=>CallK P Inv s c o.dst K
  | _=>if isImp o.op=true then istep P o s K else fstep P o s K
 | _=>if isImp o.op=true then istep P o s K else fstep P o s K
section
variable {P : Program} {Inv : IV}
theorem xhA {s s':St} {o:Oper} {c:Call} (ho:o.op=.call c) (h:OpF P Inv s ⟨o.dst,.call c,0, "",#[],none⟩ s'):OpF P Inv s o s':=by
 rcases h with ⟨x,nb,h1,h2⟩|⟨c',g,args,args',r,h1,h2⟩
 · exact .inl ⟨x,nb,by rw [ho];exact h1,h2⟩
 · simp only [Op.call.injEq] at h1;subst h1
   exact .inr ⟨c,g,args,args',r,ho,h2⟩
theorem xgB {s s':St} {o:Oper} {c:Call} (ho:o.op=.call c) (h:OpI0 P Inv s ⟨o.dst,.call c,0, "",#[],none⟩ s'):OpI0 P Inv s o s':=by
 rcases h with ⟨x,H',h1,h2⟩|⟨c',g,args,ids,H0,r0,H0',h1,h2⟩|⟨s1,x,nb,h1,h2,h3⟩
 · exact .inl ⟨x,H',by rw [ho];exact h1,h2⟩
 · simp only [Op.call.injEq] at h1;subst h1
   exact .inr (.inl ⟨c,g,args,ids,H0,r0,H0',ho,h2⟩)
 · exact .inr (.inr ⟨s1,x,nb,h1,by rw [ho];exact h2,h3⟩)
theorem xkZ {s s':St} {o:Oper} {c:Call} (ho:o.op=.call c) (h:OpI P Inv s ⟨o.dst,.call c,0, "",#[],none⟩ s'):OpI P Inv s o s':=by
 rcases h with h|⟨s1,h1,h2⟩|⟨s1,x,H',h1,h2,h3⟩
 · exact .inl (xgB ho h)
 · exact .inr (.inl ⟨s1,h1,xgB ho h2⟩)
 · exact .inr (.inr ⟨s1,x,H',h1,by rw [ho];exact h2,h3⟩)
theorem xcP {o:Oper} {s:St} {K:St→Prop} (h:fstep P o s K):∃ s',OpF P Inv s o s'∧K s':=by
 unfold fstep at h
 split at h
 · rename_i x nb hx
   exact ⟨_,.inl ⟨x,nb,.inl hx,rfl⟩,h⟩
 · exact h.elim
theorem xfC {o:Oper} {s:St} {K:St→Prop} (h:istep P o s K):∃ s',OpI P Inv s o s'∧K s':=by
 unfold istep at h
 split at h
 · rename_i x H hx
   exact ⟨_,.inl (.inl ⟨x,H,hx,rfl⟩),h⟩
 · exact h.elim
theorem xgD {o:Oper} {s:St} {K:St→Prop} {c a b:Operand} (ho:o.op=.pick c a b) {t:Bool} (hc:s.eval c=.bool t) (h:both t (K ⟨putT s.tmps o.dst (s.eval a),s.heap⟩) (K ⟨putT s.tmps o.dst (s.eval b),s.heap⟩)):∃ s',OpF P Inv s o s'∧K s':=by
 refine ⟨⟨putT s.tmps o.dst (if t=true then s.eval a else s.eval b),s.heap⟩,.inl ⟨if t=true then s.eval a else s.eval b,none,.inl (by simp only [ho,fop,hc]),by simp⟩,?_⟩
 cases t
 · exact h.2 rfl
 · exact h.1 rfl
theorem xfP {o:Oper} {s:St} {K:St→Prop} (h:stepF P Inv o s K):∃ s',OpF P Inv s o s'∧K s':=by
 unfold stepF at h
 split at h
 · rename_i c a b ho
   split at h
   · rename_i t ht;exact xgD ho ht h
   · exact h.elim
 · rename_i c ho
   split at h
   · obtain ⟨s',h1,h2⟩:=h;exact ⟨s',xhA ho h1,h2⟩
   · exact xcP h
 · exact xcP h
theorem xi1 {o:Oper} {s:St} {K:St→Prop} (h:stepA P Inv o s K):∃ s',OpA P Inv s o s'∧K s':=by
 unfold stepA at h
 split at h
 · rename_i c a b ho
   split at h
   · rename_i t ht;obtain ⟨s',h1,h2⟩:=xgD (P:=P) (Inv:=Inv) ho ht h;exact ⟨s',.inl h1,h2⟩
   · exact h.elim
 · rename_i c ho
   split at h
   · obtain ⟨s',h1,h2⟩:=h
     rcases h1 with h1|h1
     · exact ⟨s',.inl (xhA ho h1),h2⟩
     · exact ⟨s',.inr (xkZ ho h1),h2⟩
   · split at h
     · obtain ⟨s',h1,h2⟩:=xfC (Inv:=Inv) h;exact ⟨s',.inr h1,h2⟩
     · obtain ⟨s',h1,h2⟩:=xcP (Inv:=Inv) h;exact ⟨s',.inl h1,h2⟩
 · split at h
   · obtain ⟨s',h1,h2⟩:=xfC (Inv:=Inv) h;exact ⟨s',.inr h1,h2⟩
   · obtain ⟨s',h1,h2⟩:=xcP (Inv:=Inv) h;exact ⟨s',.inl h1,h2⟩
theorem xjw {s:St} {c:Call} {d:Option Tmp} {K:St→Prop} {g:FuncId} {args args':List AV} {r:AV} (hct:callTarget s c=some (g,args)) (hm:mapO (resolve s.heap rfuel) args=some args') (hg:Good P Inv g args' r)
  (hK:K ⟨putT s.tmps d r,afterCall s.heap args r⟩):CallF P Inv s c d K :=
 ⟨_,.inr ⟨c,g,args,args',r,rfl,hct,hm,hg,rfl⟩,hK⟩
theorem xhj {a b:Prop} (h:a):both true a b:=⟨fun _=>h,fun e=>by simp at e⟩
theorem xgh {a b:Prop} (h:b):both false a b:=⟨fun e=>by simp at e,fun _=>h⟩
theorem xeq {ts:List AV} {d:Nat} {x:AV} (h:ts[d]?=some x):ts.set d x=ts:=by
 apply List.ext_getElem?
 intro i
 by_cases hi:d=i
 · subst hi
   have:d<ts.length:=by
    rcases Nat.lt_or_ge d ts.length with h'|h'
    · exact h'
    · rw [List.getElem?_eq_none h'] at h;simp at h
   simp [this]
   rw [List.getElem?_eq_getElem this] at h
   simpa using h.symm
 · simp [List.getElem?_set_ne hi]
end
end Go.Sim
end
