/- Part 7 of the proof of the law. -/
import Derived.Test.YtefdfdjimkinpaaGreatDoorTA6
import Derived.KernelRfl
set_option linter.defProp false
set_option linter.unusedVariables false
set_option linter.unusedSimpArgs false
set_option linter.unnecessarySimpa false
noncomputable section
namespace Go.Sim
open Go.RowKit
def xvg {α β:Type} {F:α->β} {t pa pb:Bool} {a' b':Option β} {a b:α} (ha:a'=br pa (some (F a)) none) (hb:b'=br pb (some (F b)) none):br t a' b'=br (br t pa pb) (some (F (br t a b))) none:=by
 cases t<;>assumption
def xaR {α:Type} (t:Bool) (a b:α):br t a b=if t=true then a else b:=by cases t<;>rfl
def xaa {α:Type} (a b:α):br true a b=a:=rfl
def xad {α:Type} (a b:α):br false a b=b:=rfl
def Env.with (E:Env) (g:FuncId) (o:List AV->Option (Bool×AV)):Env:={ E with orc:=fun g' xs=>match Nat.beq g' g with
 | true=>(match o xs with
  | .some r=>.some r
  | .none=>E.orc g' xs)
 | false=>E.orc g' xs }
def Env.none:Env:=⟨fun _ _=>.none,fun _=>false,fun _ _ _=>.none,fun _=>.none,0,100000,0,fun _=>false⟩
def Env.withM (E:Env) (g:FuncId) (o:List AV->List Box->Option (Bool×AV×List Box)):Env:={ E with
 isM:=fun g'=>match Nat.beq g' g with|true=>true|false=>E.isM g'
 orcM:=fun g' xs H=>match Nat.beq g' g with
  | true=>(match o xs H with
   | .some r=>.some r
   | .none=>E.orcM g' xs H)
  | false=>E.orcM g' xs H }
def OcOk (P:Program) (Inv:IV) (g:FuncId) (o:List AV->Option (Bool×AV)):Prop:=∀ xs r,o xs=some (true,r)->Good P Inv g xs r
def OmOk (P:Program) (Inv:IV) (g:FuncId) (o:List AV->List Box->Option (Bool×AV×List Box)):Prop:=∀ xs H r H',o xs H=some (true,r,H')->GoodM P Inv g xs H r H'
def IV.at (I:IV) (p:Nat):IV:={ I with pin:=p }
section
variable {P : Program} {Inv : IV} {E : Env}
def xzr:xH8 P Inv Env.none:=⟨fun g xs r h=>by simp [Env.none] at h,fun g xs H r H' h=>by simp [Env.none] at h⟩
def xH8.with (h:xH8 P Inv E) {g:FuncId} {o:List AV->Option (Bool×AV)} (ho:OcOk P Inv g o):xH8 P Inv (E.with g o):=⟨fun g' xs r e=>by
 unfold Env.with at e;simp only at e;split at e
 . rename_i hb;have:=zh hb;subst this;split at e
   . rename_i r' hr;cases e;exact ho xs r hr
   . exact h.1 g' xs r e
 . exact h.1 g' xs r e,h.2⟩
def xH8.withM (h:xH8 P Inv E) {g:FuncId} {o:List AV->List Box->Option (Bool×AV×List Box)} (ho:OmOk P Inv g o):xH8 P Inv (E.withM g o):=⟨h.1,fun g' xs H r H' e=>by
 unfold Env.withM at e;simp only at e;split at e
 . rename_i hb;have:=zh hb;subst this;split at e
   . rename_i r' hr;cases e;exact ho xs H r H' hr
   . exact h.2 g' xs H r H' e
 . exact h.2 g' xs H r H' e⟩
def Env.fn (E:Env) (nt pin:Nat) (ls:TypeId->Bool) (lp:Nat->Option Lp):Env:={ E with nt:=nt,pin:=pin,ls:=ls,lp:=lp }
def xH8.fn (h:xH8 P Inv E) {nt pin:Nat} {ls:TypeId->Bool} {lp:Nat->Option Lp}:xH8 P (Inv.at pin) (E.fn nt pin ls lp):=h
def xH8.at (h:xH8 P Inv E) {pin:Nat}:xH8 P (Inv.at pin) E:=h
def noConds {c:Code} (hc:((xIn c).all fun d=>(E.lp (condId d)).isNone)=true):∀ d,d∈xIn c->∀ lp,E.lp (condId d)=some lp->PieceOk P Inv E.nt d lp:=fun d hd lp hs=>by
 have:=zJ.1 hc d hd;rw [hs] at this;simp at this
def xdY {c:Code} (h:xIr c=[]) (hc:((xIn c).all fun d=>(E.lp (condId d)).isNone)=true:=by kernel_rfl):LoOk P Inv E c:=⟨fun l hl=>by rw [h] at hl;simp at hl,noConds hc⟩
def xgd {c:Code} {ls:List Code} (h:xIr c=ls) (hl:∀ l,l∈ls->∀ lp,E.lp (xIm l)=some lp->LoopOk P Inv E.nt l lp) (hc:((xIn c).all fun d=>(E.lp (condId d)).isNone)=true:=by kernel_rfl):LoOk P Inv E c:=⟨fun l hm lp hs=>by
 rw [h] at hm;exact hl l hm lp hs,noConds hc⟩
def xhu (O:P.follows .mixedOrders=true) (J:InvOk Inv) (D:Inv.pin=E.pin) (Q:xH8 P Inv E) {f:FuncId} {fn:Func} {args:List AV} {r:AV} (hf:P.funcs[f]?=some fn) (hb:fn.body.isSome=true) (q:(fn.name == "runtime.NumGoroutine")=false)
  (hl:LoOk P Inv E (fn.body.getD .skip)) (h:XF P E fn (fn.body.getD .skip) args=some r):Good P Inv f args r:=by
 cases hc:fn.body with
 | none=>simp [hc] at hb
 | some c=>exact xzj O J D Q hf hc q (by simpa [hc] using hl) (by simpa [hc] using h)
def xnQ (O:P.follows .mixedOrders=true) (J:InvOk Inv) (D:Inv.pin=E.pin) (Q:xH8 P Inv E) {f:FuncId} {fn:Func} {args:List AV} {r:AV} {H H':List Box} (hH:H.length=E.pin) (hf:P.funcs[f]?=some fn) (hb:fn.body.isSome=true) (q:(fn.name == "runtime.NumGoroutine")=false)
  (hl:LoOk P Inv E (fn.body.getD .skip)) (h:XFM P E fn (fn.body.getD .skip) args H=some (r,H')):GoodM P Inv f args H r H':=by
 cases hc:fn.body with
 | none=>simp [hc] at hb
 | some c=>exact xvI O J D Q hH hf hc q (by simpa [hc] using hl) (by simpa [hc] using h)
def xfp {f:FuncId} {args:List AV} {r:AV} {p:Nat} (h:Good P (Inv.at p) f args r):Good P Inv f args r:=h
def xnR {f:FuncId} {args:List AV} {r:AV} {H H':List Box} {p:Nat} (h:GoodM P (Inv.at p) f args H r H'):GoodM P Inv f args H r H':=h
def Enc {α β:Type} (f:α->β) (a:Option α) (b:Option β):Prop:=∀ r,a=some r->b=some (f r)
def Enc.br {α β:Type} {f:α->β} {t:Bool} {a a':Option α} {b b':Option β} (h1:Enc f a b) (h2:Enc f a' b'):Enc f (Sim.br t a a') (Sim.br t b b'):=by cases t<;>assumption
def Enc.none {α β:Type} {f:α->β} {b:Option β}:Enc f .none b:=fun r h=>by simp at h
def Enc.some {α β:Type} {f:α->β} {a:α} {b:β} (h:b=f a):Enc f (Option.some a) (Option.some b):=fun r e=>by simp only [z6] at e;rw [<-e,h]
def Pre {α:Type} (p:Bool) (a:Option α) (b:α):Prop:=p=true->a=some b
def Pre.get {α:Type} {p:Bool} {a:Option α} {b:α} (h:Pre p a b) (hp:p=true):a=Option.some b:=h hp
def Pre.none {α:Type} {a:Option α} {b:α}:Pre false a b:=fun h=>by simp at h
def Pre.some {α:Type} {a b:α} (h:a=b) {p:Bool}:Pre p (Option.some a) b:=fun _=>by rw [h]
def Pre.tt {α:Type} {a:Option α} {b:α} (h:a=Option.some b) {p:Bool}:Pre p a b:=fun _=>h
def Pre.l {α:Type} {t p:Bool} {a:Option α} {b:α} (h:Pre p a b):Pre (Sim.br t p false) (Sim.br t a .none) b:=by cases t with
 | true=>exact h
 | false=>exact Pre.none
def Pre.r {α:Type} {t p:Bool} {a:Option α} {b:α} (h:Pre p a b):Pre (Sim.br t false p) (Sim.br t .none a) b:=by cases t with
 | true=>exact Pre.none
 | false=>exact h
def Pre.br {α β:Type} {f:β->α} {t p q:Bool} {a a':Option α} {b b':β} (h1:Pre p a (f b)) (h2:Pre q a' (f b')):Pre (Sim.br t p q) (Sim.br t a a') (f (Sim.br t b b')):=by cases t<;>assumption
def Pre.brt {α β:Type} {f:β->α} {t:Bool} {a a':Option α} {b b':β} (h1:Pre true a (f b)) (h2:Pre true a' (f b')):Pre true (Sim.br t a a') (f (Sim.br t b b')):=by cases t<;>assumption
def lsOf (l:List Nat):TypeId->Bool:=fun t=>match xIt l t with
 | some _=>true
 | none=>false
def xIu:List (Nat×Lp)->Nat->Option Lp
 | [],_=>none
 | (n,l)::r,k=>match Nat.beq n k with
  | true=>some l
  | false=>xIu r k
def xIc (fn:Func) (i:Nat):Code:=(xIr (fn.body.getD .skip)).getD i .skip
def xaK {n:Int} (h1:-9223372036854775808<=n) (h2:n<=9223372036854775807):IntKind.i64.wrap n=n:=by
 simp only [IntKind.wrap,IntKind.signed,IntKind.bits];simp;omega
end
end Go.Sim
