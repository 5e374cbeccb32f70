/- Part 7. -/
import Derived.Test.YtodofdnlhoknhaaGreatDoorTS6
import Derived.KernelRfl
set_option linter.all false
namespace Go
theorem Θ{p:Prop}(h:p:=by kernel_rfl):p:=h
theorem Φ{α:Type}{a b:α}(h:a=b:=by kernel_rfl):some a=some b:=congrArg some h
end Go
noncomputable section
namespace Go.Sim
open Go.RowKit
def WT{α β:Type}{F:α->β}{t pa pb:Bool}{a' b':Option β}{a b:α}(ha:a'=br pa (some (F a)) none)(hb:b'=br pb (some (F b)) none):br t a' b'=br (br t pa pb) (some (F (br t a b))) none:=by cases t<;>assumption
def dY{α:Type}(t:Bool)(a b:α):br t a b=if t then a else b:=by cases t<;>rfl
def aW{α:Type}(a b:α):br true a b=a:=rfl
def bE{α:Type}(a b:α):br false a b=b:=rfl
def cZ.with (E:cZ) (g:FuncId) (o:List AV->Option (Bool×AV)):cZ:={ E with orc:=fun g' xs=>match Nat.beq g' g with|true=>((match o xs with|.some r=>.some r|.none=>E.orc g' xs))|false=>E.orc g' xs }
def cZ.none:cZ:=⟨λ _ _=>.none,λ _=>false,λ _ _ _=>.none,λ _=>.none,0,100000,0,λ _=>false⟩
def cZ.withM (E:cZ) (g:FuncId) (o:List AV->List aC->Option (Bool×AV×List aC)):cZ:={ E with
 isM:=λ g'=>match Nat.beq g' g with|true=>true|false=>E.isM g'
 orcM:=λ g' xs H=>match Nat.beq g' g with
  |true=>(match o xs H with
   |.some r=>.some r
   |.none=>E.orcM g' xs H)
  |false=>E.orcM g' xs H }
def ga(P:Program)(Inv:IV)(g:FuncId)(o:List AV->Option (Bool×AV)):Prop:=∀xs r,o xs=some (true,r)->Good P Inv g xs r
def fJ(P:Program)(Inv:IV)(g:FuncId)(o:List AV->List aC->Option (Bool×AV×List aC)):Prop:=∀xs H r H',o xs H=some (true,r,H')->bG P Inv g xs H r H'
def IV.at(I:IV)(p:Nat):IV:={I with pin:=p}
section
variable{P:Program}{Inv:IV}{E:cZ}
def xFK:di P Inv cZ.none:=⟨λ g xs r h=>by simp[cZ.none]at h,λ g xs H r H' h=>by simp[cZ.none]at h⟩
variable {g:FuncId}
def di.with (h:di P Inv E) {o:List AV->Option (Bool×AV)} (ho:ga P Inv g o):di P Inv (E.with g o):=⟨fun g' xs r e=>by
 unfold cZ.with at e;simp only at e;split at e
 . rename_i hb;have:=zg hb;subst this;split at e
   . rename_i r' hr;cases e;exact ho xs r hr
   . exact h.1 g' xs r e
 . exact h.1 g' xs r e,h.2⟩
def di.withM (h:di P Inv E) {o:List AV->List aC->Option (Bool×AV×List aC)} (ho:fJ P Inv g o):di P Inv (E.withM g o):=⟨h.1,fun g' xs H r H' e=>by
 unfold cZ.withM at e;simp only at e;split at e
 . rename_i hb;have:=zg hb;subst this;split at e
   . rename_i r' hr;cases e;exact ho xs H r H' hr
   . exact h.2 g' xs H r H' e
 . exact h.2 g' xs H r H' e⟩
def cZ.fn(E:cZ)(nt pin:Nat)(ls:TypeId->Bool)(lp:Nat->Option Lp):cZ:={E with nt:=nt,pin:=pin,ls:=ls,lp:=lp}
def di.fn(h:di P Inv E){nt pin:Nat}{ls:TypeId->Bool}{lp:Nat->Option Lp}:di P (Inv.at pin) (E.fn nt pin ls lp):=h
def di.at(h:di P Inv E){pin:Nat}:di P (Inv.at pin) E:=h
variable {c:Code}
def og(hc:((jJ c).all λ d=>(E.lp (gM d)).isNone)):∀d,d∈jJ c->∀lp,E.lp (gM d)=some lp->lw P Inv E.nt d lp:=λ d hd lp hs=>by have:=zI.1 hc d hd;rw[hs]at this;simp at this
def oI(h:jX c=[])(hc:((jJ c).all λ d=>(E.lp (gM d)).isNone):=by kernel_rfl):cV P Inv E c:=⟨λ l hl=>by rw[h]at hl;simp at hl,og hc⟩
def r7 {ls:List Code} (h:jX c=ls) (hl:∀ l,l∈ls->∀ lp,E.lp (jv l)=some lp->dp P Inv E.nt l lp) (hc:((jJ c).all fun d=>(E.lp (gM d)).isNone):=by kernel_rfl):cV P Inv E c:=⟨fun l hm lp hs=>by
 rw [h] at hm;exact hl l hm lp hs,og hc⟩
variable {args:List AV}
def CL(Q:P.follows .mixedOrders)(O:bP Inv)(J:Inv.pin=E.pin)(V:di P Inv E){f:FuncId}{fn:Func}{r:AV}(hf:P.funcs[f]?=some fn)(hb:fn.body.isSome)(q:(fn.name == "runtime.NumGoroutine")=false)(hl:cV P Inv E (fn.body.getD .skip))(h:XF P E fn (fn.body.getD .skip) args=some r):Good P Inv f args r:=by cases hc:fn.body with|none=>simp[hc]at hb|some c=>exact xFC Q O J V hf hc q (by simpa[hc]using hl) (by simpa[hc]using h)
variable {H H':List aC}
def vA(Q:P.follows .mixedOrders)(O:bP Inv)(J:Inv.pin=E.pin)(V:di P Inv E){f:FuncId}{fn:Func}{r:AV}(hH:H.length=E.pin)(hf:P.funcs[f]?=some fn)(hb:fn.body.isSome)(q:(fn.name == "runtime.NumGoroutine")=false)(hl:cV P Inv E (fn.body.getD .skip))(h:l6 P E fn (fn.body.getD .skip) args H=some (r,H')):bG P Inv f args H r H':=by cases hc:fn.body with|none=>simp[hc]at hb|some c=>exact xCq Q O J V hH hf hc q (by simpa[hc]using hl) (by simpa[hc]using h)
def yD{f:FuncId}{r:AV}{p:Nat}(h:Good P (Inv.at p) f args r):Good P Inv f args r:=h
def vB{f:FuncId}{r:AV}{p:Nat}(h:bG P (Inv.at p) f args H r H'):bG P Inv f args H r H':=h
def cU{α β:Type}(f:α->β)(a:Option α)(b:Option β):Prop:=∀r,a=some r->b=some (f r)
variable {t:Bool}
def cU.br{α β:Type}{f:α->β}{a a':Option α}{b b':Option β}(h1:cU f a b)(h2:cU f a' b'):cU f (Sim.br t a a') (Sim.br t b b'):=by cases t<;>assumption
def cU.none{α β:Type}{f:α->β}{b:Option β}:cU f .none b:=λ r h=>by simp at h
def cU.some{α β:Type}{f:α->β}{a:α}{b:β}(h:b=f a):cU f (Option.some a) (Option.some b):=λ r e=>by simp only[z6]at e;rw[<-e,h]
def fQ{α:Type}(p:Bool)(a:Option α)(b:α):Prop:=p->a=some b
variable {p:Bool}
def fQ.get{α:Type}{a:Option α}{b:α}(h:fQ p a b)(hp:p):a=Option.some b:=h hp
def fQ.none{α:Type}{a:Option α}{b:α}:fQ false a b:=λ h=>by simp at h
def fQ.some{α:Type}{a b:α}(h:a=b):fQ p (Option.some a) b:=λ _=>by rw[h]
def fQ.tt{α:Type}{a:Option α}{b:α}(h:a=Option.some b):fQ p a b:=λ _=>h
def fQ.l{α:Type}{a:Option α}{b:α}(h:fQ p a b):fQ (Sim.br t p false) (Sim.br t a .none) b:=by cases t with
 |true=>exact h
 |false=>exact fQ.none
def fQ.r{α:Type}{a:Option α}{b:α}(h:fQ p a b):fQ (Sim.br t false p) (Sim.br t .none a) b:=by cases t with
 |true=>exact fQ.none
 |false=>exact h
def fQ.br{α β:Type}{f:β->α}{q:Bool}{a a':Option α}{b b':β}(h1:fQ p a (f b))(h2:fQ q a' (f b')):fQ (Sim.br t p q) (Sim.br t a a') (f (Sim.br t b b')):=by cases t<;>assumption
def fQ.brt{α β:Type}{f:β->α}{a a':Option α}{b b':β}(h1:fQ true a (f b))(h2:fQ true a' (f b')):fQ true (Sim.br t a a') (f (Sim.br t b b')):=by cases t<;>assumption
def dQ(l:List Nat):TypeId->Bool:=λ t=>match gY l t with|some _=>true|none=>false
def iS:List (Nat×Lp)->Nat->Option Lp|[],_=>none|(n,l)::r,k=>match Nat.beq n k with|true=>some l|false=>iS r k
def gE(fn:Func)(i:Nat):Code:=(jX (fn.body.getD .skip)).getD i .skip
def gx{n:Int}(h1:-9223372036854775808<=n)(h2:n<=9223372036854775807):IntKind.i64.wrap n=n:=by simp only[IntKind.wrap,IntKind.signed,IntKind.bits];simp;omega
end
end Go.Sim
