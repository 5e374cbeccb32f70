/- Part 7 of the proof of the law. -/
import Derived.Test.YtodofdnlhoknhaaGreatDoorTC6
import Derived.KernelRfl
set_option linter.defProp false
set_option linter.unusedVariables false
set_option linter.unusedSimpArgs false
set_option linter.unnecessarySimpa false
namespace Go
theorem Θ{p:Prop}(h:p:=by kernel_rfl):p:=h
theorem Φ{α:Type}{a b:α}(h:a=b:=by kernel_rfl):some a=some b:=congrArg some h
end Go
noncomputable section
namespace Go.Sim
open Go.RowKit
def Vk{α β:Type}{F:α->β}{t pa pb:Bool}{a' b':Option β}{a b:α}(ha:a'=br pa (some (F a)) none)(hb:b'=br pb (some (F b)) none):br t a' b'=br (br t pa pb) (some (F (br t a b))) none:=by cases t<;>assumption
def eh{α:Type}(t:Bool)(a b:α):br t a b=if t then a else b:=by cases t<;>rfl
def aW{α:Type}(a b:α):br true a b=a:=rfl
def bE{α:Type}(a b:α):br false a b=b:=rfl
def dp.with (E:dp) (g:FuncId) (o:List AV->Option (Bool×AV)):dp:={ E with orc:=fun g' xs=>match Nat.beq g' g with|true=>((match o xs with|.some r=>.some r|.none=>E.orc g' xs))|false=>E.orc g' xs }
def dp.none:dp:=⟨λ _ _=>.none,λ _=>false,λ _ _ _=>.none,λ _=>.none,0,100000,0,λ _=>false⟩
def dp.withM (E:dp) (g:FuncId) (o:List AV->List aC->Option (Bool×AV×List aC)):dp:={ E with
 isM:=λ g'=>match Nat.beq g' g with|true=>true|false=>E.isM g'
 orcM:=λ g' xs H=>match Nat.beq g' g with
  |true=>(match o xs H with
   |.some r=>.some r
   |.none=>E.orcM g' xs H)
  |false=>E.orcM g' xs H }
def iz(P:Program)(Inv:IV)(g:FuncId)(o:List AV->Option (Bool×AV)):Prop:=∀xs r,o xs=some (true,r)->Good P Inv g xs r
def fP(P:Program)(Inv:IV)(g:FuncId)(o:List AV->List aC->Option (Bool×AV×List aC)):Prop:=∀xs H r H',o xs H=some (true,r,H')->bH P Inv g xs H r H'
def IV.at(I:IV)(p:Nat):IV:={I with pin:=p}
section
variable{P:Program}{Inv:IV}{E:dp}
def xEK:dA P Inv dp.none:=⟨λ g xs r h=>by simp[dp.none]at h,λ g xs H r H' h=>by simp[dp.none]at h⟩
variable {g:FuncId}
def dA.with (h:dA P Inv E) {o:List AV->Option (Bool×AV)} (ho:iz P Inv g o):dA P Inv (E.with g o):=⟨fun g' xs r e=>by
 unfold dp.with at e;simp only at e;split at e
 . rename_i hb;have:=zg hb;subst this;split at e
   . rename_i r' hr;cases e;exact ho xs r hr
   . exact h.1 g' xs r e
 . exact h.1 g' xs r e,h.2⟩
def dA.withM (h:dA P Inv E) {o:List AV->List aC->Option (Bool×AV×List aC)} (ho:fP P Inv g o):dA P Inv (E.withM g o):=⟨h.1,fun g' xs H r H' e=>by
 unfold dp.withM at e;simp only at e;split at e
 . rename_i hb;have:=zg hb;subst this;split at e
   . rename_i r' hr;cases e;exact ho xs H r H' hr
   . exact h.2 g' xs H r H' e
 . exact h.2 g' xs H r H' e⟩
def dp.fn(E:dp)(nt pin:Nat)(ls:TypeId->Bool)(lp:Nat->Option Lp):dp:={E with nt:=nt,pin:=pin,ls:=ls,lp:=lp}
def dA.fn(h:dA P Inv E){nt pin:Nat}{ls:TypeId->Bool}{lp:Nat->Option Lp}:dA P (Inv.at pin) (E.fn nt pin ls lp):=h
def dA.at(h:dA P Inv E){pin:Nat}:dA P (Inv.at pin) E:=h
variable {c:Code}
def ob(hc:((jF c).all λ d=>(E.lp (gL d)).isNone)):∀d,d∈jF c->∀lp,E.lp (gL d)=some lp->lq P Inv E.nt d lp:=λ d hd lp hs=>by have:=zI.1 hc d hd;rw[hs]at this;simp at this
def pM(h:jW c=[])(hc:((jF c).all λ d=>(E.lp (gL d)).isNone):=by kernel_rfl):dw P Inv E c:=⟨λ l hl=>by rw[h]at hl;simp at hl,ob hc⟩
def yu {ls:List Code} (h:jW c=ls) (hl:∀ l,l∈ls->∀ lp,E.lp (jp l)=some lp->dU P Inv E.nt l lp) (hc:((jF c).all fun d=>(E.lp (gL d)).isNone):=by kernel_rfl):dw P Inv E c:=⟨fun l hm lp hs=>by
 rw [h] at hm;exact hl l hm lp hs,ob hc⟩
variable {args:List AV}
def Ce(Q:P.follows .mixedOrders)(O:bO Inv)(J:Inv.pin=E.pin)(V:dA P Inv E){f:FuncId}{fn:Func}{r:AV}(hf:P.funcs[f]?=some fn)(hb:fn.body.isSome)(q:(fn.name == "runtime.NumGoroutine")=false)(hl:dw P Inv E (fn.body.getD .skip))(h:XF P E fn (fn.body.getD .skip) args=some r):Good P Inv f args r:=by cases hc:fn.body with|none=>simp[hc]at hb|some c=>exact xEB Q O J V hf hc q (by simpa[hc]using hl) (by simpa[hc]using h)
variable {H H':List aC}
def ym(Q:P.follows .mixedOrders)(O:bO Inv)(J:Inv.pin=E.pin)(V:dA P Inv E){f:FuncId}{fn:Func}{r:AV}(hH:H.length=E.pin)(hf:P.funcs[f]?=some fn)(hb:fn.body.isSome)(q:(fn.name == "runtime.NumGoroutine")=false)(hl:dw P Inv E (fn.body.getD .skip))(h:mQ P E fn (fn.body.getD .skip) args H=some (r,H')):bH P Inv f args H r H':=by cases hc:fn.body with|none=>simp[hc]at hb|some c=>exact xBr Q O J V hH hf hc q (by simpa[hc]using hl) (by simpa[hc]using h)
def yr{f:FuncId}{r:AV}{p:Nat}(h:Good P (Inv.at p) f args r):Good P Inv f args r:=h
def yn{f:FuncId}{r:AV}{p:Nat}(h:bH P (Inv.at p) f args H r H'):bH P Inv f args H r H':=h
def dQ{α β:Type}(f:α->β)(a:Option α)(b:Option β):Prop:=∀r,a=some r->b=some (f r)
variable {t:Bool}
def dQ.br{α β:Type}{f:α->β}{a a':Option α}{b b':Option β}(h1:dQ f a b)(h2:dQ f a' b'):dQ f (Sim.br t a a') (Sim.br t b b'):=by cases t<;>assumption
def dQ.none{α β:Type}{f:α->β}{b:Option β}:dQ f .none b:=λ r h=>by simp at h
def dQ.some{α β:Type}{f:α->β}{a:α}{b:β}(h:b=f a):dQ f (Option.some a) (Option.some b):=λ r e=>by simp only[z6]at e;rw[<-e,h]
def fL{α:Type}(p:Bool)(a:Option α)(b:α):Prop:=p->a=some b
variable {p:Bool}
def fL.get{α:Type}{a:Option α}{b:α}(h:fL p a b)(hp:p):a=Option.some b:=h hp
def fL.none{α:Type}{a:Option α}{b:α}:fL false a b:=λ h=>by simp at h
def fL.some{α:Type}{a b:α}(h:a=b):fL p (Option.some a) b:=λ _=>by rw[h]
def fL.tt{α:Type}{a:Option α}{b:α}(h:a=Option.some b):fL p a b:=λ _=>h
def fL.l{α:Type}{a:Option α}{b:α}(h:fL p a b):fL (Sim.br t p false) (Sim.br t a .none) b:=by cases t with
 |true=>exact h
 |false=>exact fL.none
def fL.r{α:Type}{a:Option α}{b:α}(h:fL p a b):fL (Sim.br t false p) (Sim.br t .none a) b:=by cases t with
 |true=>exact fL.none
 |false=>exact h
def fL.br{α β:Type}{f:β->α}{q:Bool}{a a':Option α}{b b':β}(h1:fL p a (f b))(h2:fL q a' (f b')):fL (Sim.br t p q) (Sim.br t a a') (f (Sim.br t b b')):=by cases t<;>assumption
def fL.brt{α β:Type}{f:β->α}{a a':Option α}{b b':β}(h1:fL true a (f b))(h2:fL true a' (f b')):fL true (Sim.br t a a') (f (Sim.br t b b')):=by cases t<;>assumption
def eX(l:List Nat):TypeId->Bool:=λ t=>match gX l t with|some _=>true|none=>false
def jL:List (Nat×Lp)->Nat->Option Lp|[],_=>none|(n,l)::r,k=>match Nat.beq n k with|true=>some l|false=>jL r k
def kL(fn:Func)(i:Nat):Code:=(jW (fn.body.getD .skip)).getD i .skip
def il{n:Int}(h1:-9223372036854775808<=n)(h2:n<=9223372036854775807):IntKind.i64.wrap n=n:=by simp only[IntKind.wrap,IntKind.signed,IntKind.bits];simp;omega
end
end Go.Sim
