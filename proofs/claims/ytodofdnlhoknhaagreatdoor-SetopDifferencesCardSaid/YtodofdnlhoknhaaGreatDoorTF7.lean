/- Part 7 of the proof of the law. -/
import Derived.Test.YtodofdnlhoknhaaGreatDoorTF6
import Derived.KernelRfl
set_option linter.defProp false
set_option linter.unusedVariables false
set_option linter.unusedSimpArgs false
set_option linter.unnecessarySimpa false
namespace Go
theorem Θ{p:Prop}(h:p:=by kernel_rfl):p:=h
theorem Φ{α:Type}{a b:α}(h:a=b:=by kernel_rfl):some a=some b:=congrArg some h
end Go
noncomputable section
namespace Go.Sim
open Go.RowKit
def xED{α β:Type}{F:α->β}{t pa pb:Bool}{a' b':Option β}{a b:α}(ha:a'=br pa (some (F a)) none)(hb:b'=br pb (some (F b)) none):br t a' b'=br (br t pa pb) (some (F (br t a b))) none:=by cases t<;>assumption
def xaH{α:Type}(t:Bool)(a b:α):br t a b=if t then a else b:=by cases t<;>rfl
def xab{α:Type}(a b:α):br true a b=a:=rfl
def xae{α:Type}(a b:α):br false a b=b:=rfl
def Env.with (E:Env) (g:FuncId) (o:List AV->Option (Bool×AV)):Env:={ E with orc:=fun g' xs=>match Nat.beq g' g with|true=>((match o xs with|.some r=>.some r|.none=>E.orc g' xs))|false=>E.orc g' xs }
def Env.none:Env:=⟨λ _ _=>.none,λ _=>false,λ _ _ _=>.none,λ _=>.none,0,100000,0,λ _=>false⟩
def Env.withM (E:Env) (g:FuncId) (o:List AV->List Box->Option (Bool×AV×List Box)):Env:={ E with
 isM:=λ g'=>match Nat.beq g' g with|true=>true|false=>E.isM g'
 orcM:=λ g' xs H=>match Nat.beq g' g with
  |true=>(match o xs H with
   |.some r=>.some r
   |.none=>E.orcM g' xs H)
  |false=>E.orcM g' xs H }
def OcOk(P:Program)(Inv:IV)(g:FuncId)(o:List AV->Option (Bool×AV)):Prop:=∀xs r,o xs=some (true,r)->Good P Inv g xs r
def OmOk(P:Program)(Inv:IV)(g:FuncId)(o:List AV->List Box->Option (Bool×AV×List Box)):Prop:=∀xs H r H',o xs H=some (true,r,H')->GoodM P Inv g xs H r H'
def IV.at(I:IV)(p:Nat):IV:={I with pin:=p}
section
variable{P:Program}{Inv:IV}{E:Env}
def xDC:xM1 P Inv Env.none:=⟨λ g xs r h=>by simp[Env.none]at h,λ g xs H r H' h=>by simp[Env.none]at h⟩
variable {g:FuncId}
def xM1.with (h:xM1 P Inv E) {o:List AV->Option (Bool×AV)} (ho:OcOk P Inv g o):xM1 P Inv (E.with g o):=⟨fun g' xs r e=>by
 unfold Env.with at e;simp only at e;split at e
 . rename_i hb;have:=zg hb;subst this;split at e
   . rename_i r' hr;cases e;exact ho xs r hr
   . exact h.1 g' xs r e
 . exact h.1 g' xs r e,h.2⟩
def xM1.withM (h:xM1 P Inv E) {o:List AV->List Box->Option (Bool×AV×List Box)} (ho:OmOk P Inv g o):xM1 P Inv (E.withM g o):=⟨h.1,fun g' xs H r H' e=>by
 unfold Env.withM at e;simp only at e;split at e
 . rename_i hb;have:=zg hb;subst this;split at e
   . rename_i r' hr;cases e;exact ho xs H r H' hr
   . exact h.2 g' xs H r H' e
 . exact h.2 g' xs H r H' e⟩
def Env.fn(E:Env)(nt pin:Nat)(ls:TypeId->Bool)(lp:Nat->Option Lp):Env:={E with nt:=nt,pin:=pin,ls:=ls,lp:=lp}
def xM1.fn(h:xM1 P Inv E){nt pin:Nat}{ls:TypeId->Bool}{lp:Nat->Option Lp}:xM1 P (Inv.at pin) (E.fn nt pin ls lp):=h
def xM1.at(h:xM1 P Inv E){pin:Nat}:xM1 P (Inv.at pin) E:=h
variable {c:Code}
def noConds(hc:((xNg c).all λ d=>(E.lp (condId d)).isNone)):∀d,d∈xNg c->∀lp,E.lp (condId d)=some lp->PieceOk P Inv E.nt d lp:=λ d hd lp hs=>by have:=zI.1 hc d hd;rw[hs]at this;simp at this
def xgz(h:xNk c=[])(hc:((xNg c).all λ d=>(E.lp (condId d)).isNone):=by kernel_rfl):LoOk P Inv E c:=⟨λ l hl=>by rw[h]at hl;simp at hl,noConds hc⟩
def xmW {ls:List Code} (h:xNk c=ls) (hl:∀ l,l∈ls->∀ lp,E.lp (xNf l)=some lp->LoopOk P Inv E.nt l lp) (hc:((xNg c).all fun d=>(E.lp (condId d)).isNone):=by kernel_rfl):LoOk P Inv E c:=⟨fun l hm lp hs=>by
 rw [h] at hm;exact hl l hm lp hs,noConds hc⟩
variable {args:List AV}
def xqv(Q:P.follows .mixedOrders)(O:InvOk Inv)(J:Inv.pin=E.pin)(V:xM1 P Inv E){f:FuncId}{fn:Func}{r:AV}(hf:P.funcs[f]?=some fn)(hb:fn.body.isSome)(q:(fn.name == "runtime.NumGoroutine")=false)(hl:LoOk P Inv E (fn.body.getD .skip))(h:XF P E fn (fn.body.getD .skip) args=some r):Good P Inv f args r:=by cases hc:fn.body with|none=>simp[hc]at hb|some c=>exact xDt Q O J V hf hc q (by simpa[hc]using hl) (by simpa[hc]using h)
variable {H H':List Box}
def xk5(Q:P.follows .mixedOrders)(O:InvOk Inv)(J:Inv.pin=E.pin)(V:xM1 P Inv E){f:FuncId}{fn:Func}{r:AV}(hH:H.length=E.pin)(hf:P.funcs[f]?=some fn)(hb:fn.body.isSome)(q:(fn.name == "runtime.NumGoroutine")=false)(hl:LoOk P Inv E (fn.body.getD .skip))(h:XFM P E fn (fn.body.getD .skip) args H=some (r,H')):GoodM P Inv f args H r H':=by cases hc:fn.body with|none=>simp[hc]at hb|some c=>exact xAn Q O J V hH hf hc q (by simpa[hc]using hl) (by simpa[hc]using h)
def xmS{f:FuncId}{r:AV}{p:Nat}(h:Good P (Inv.at p) f args r):Good P Inv f args r:=h
def xk6{f:FuncId}{r:AV}{p:Nat}(h:GoodM P (Inv.at p) f args H r H'):GoodM P Inv f args H r H':=h
def Enc{α β:Type}(f:α->β)(a:Option α)(b:Option β):Prop:=∀r,a=some r->b=some (f r)
variable {t:Bool}
def Enc.br{α β:Type}{f:α->β}{a a':Option α}{b b':Option β}(h1:Enc f a b)(h2:Enc f a' b'):Enc f (Sim.br t a a') (Sim.br t b b'):=by cases t<;>assumption
def Enc.none{α β:Type}{f:α->β}{b:Option β}:Enc f .none b:=λ r h=>by simp at h
def Enc.some{α β:Type}{f:α->β}{a:α}{b:β}(h:b=f a):Enc f (Option.some a) (Option.some b):=λ r e=>by simp only[z6]at e;rw[<-e,h]
def Pre{α:Type}(p:Bool)(a:Option α)(b:α):Prop:=p->a=some b
variable {p:Bool}
def Pre.get{α:Type}{a:Option α}{b:α}(h:Pre p a b)(hp:p):a=Option.some b:=h hp
def Pre.none{α:Type}{a:Option α}{b:α}:Pre false a b:=λ h=>by simp at h
def Pre.some{α:Type}{a b:α}(h:a=b):Pre p (Option.some a) b:=λ _=>by rw[h]
def Pre.tt{α:Type}{a:Option α}{b:α}(h:a=Option.some b):Pre p a b:=λ _=>h
def Pre.l{α:Type}{a:Option α}{b:α}(h:Pre p a b):Pre (Sim.br t p false) (Sim.br t a .none) b:=by cases t with
 |true=>exact h
 |false=>exact Pre.none
def Pre.r{α:Type}{a:Option α}{b:α}(h:Pre p a b):Pre (Sim.br t false p) (Sim.br t .none a) b:=by cases t with
 |true=>exact Pre.none
 |false=>exact h
def Pre.br{α β:Type}{f:β->α}{q:Bool}{a a':Option α}{b b':β}(h1:Pre p a (f b))(h2:Pre q a' (f b')):Pre (Sim.br t p q) (Sim.br t a a') (f (Sim.br t b b')):=by cases t<;>assumption
def Pre.brt{α β:Type}{f:β->α}{a a':Option α}{b b':β}(h1:Pre true a (f b))(h2:Pre true a' (f b')):Pre true (Sim.br t a a') (f (Sim.br t b b')):=by cases t<;>assumption
def lsOf(l:List Nat):TypeId->Bool:=λ t=>match xNm l t with|some _=>true|none=>false
def xNn:List (Nat×Lp)->Nat->Option Lp|[],_=>none|(n,l)::r,k=>match Nat.beq n k with|true=>some l|false=>xNn r k
def xM5(fn:Func)(i:Nat):Code:=(xNk (fn.body.getD .skip)).getD i .skip
def xaO{n:Int}(h1:-9223372036854775808<=n)(h2:n<=9223372036854775807):IntKind.i64.wrap n=n:=by simp only[IntKind.wrap,IntKind.signed,IntKind.bits];simp;omega
end
end Go.Sim
