/- Part 8. -/
import Derived.Test.YtodofdnlhoknhaaGreatDoorTS7
import Derived.Lib.LaidTab
import Derived.Lib.ItoaNum
import Derived.Test.YtodofdnlhoknhaaGreatDoorProg
import Derived.ChangeAgain
set_option linter.all false
noncomputable section
namespace Go.Sim
open Go.RowKit Go.Proofs
structure Inv0 (P:Program) (w:World):Prop where
 sh:w.ShapedOpen P
 low:P.low<=w.heap.size
 tab:Lib.TabIs P w "internal/strconv.uint64pow10" .u64 Lib.pow10Tab
variable {P:Program}
def xw1{w w':World}(h:Below w.heap.size w w')(hl:P.low<=w.heap.size):w.keptBut w' λ p=>w.heap.size<=p.block:=by refine⟨h.os,h.output,λ i hi=>?_⟩;rw[h.block i hi];cases hw:w.heap[i]? with|none=>rfl|some o=>cases o<;>first|rfl|exact⟨rfl,rfl,rfl,λ _ _=>rfl⟩|exact .inr ⟨rfl,rfl⟩
def xPE (P:Program) (p:Nat) {b:Bool}:bP ⟨Inv0 P,p,b⟩:=⟨fun w w' h hb=>⟨h.sh.keptBut (xw1 (P:=P) hb h.low) fun p hp=>Nat.le_trans h.low hp,Nat.le_trans h.low hb.size,by
 have ht:=h.tab;unfold Lib.TabIs World.var? at ht|-;cases hg:P.globalNamed "internal/strconv.uint64pow10" with
 |none=>rw[hg]at ht;simp at ht
 |some g=>
  rw[hg]at ht;simp only[Option.bind_some]at ht|-;have:g<w.heap.size:=by
   rcases zJ g w.heap.size with h'|h'
   . exact h'
   . rw[Array.getElem?_eq_none h']at ht;simp at ht
  rw [hb.block g this];exact ht⟩⟩
variable {M:Id->Option MB}{vs:List Value}
def rc1{w:World}{A:Nat->Prop}{x:AV}(h:RC w A M vs [x]):∃v,vs=[v]/\aD w A M v x:=by obtain⟨h1,h2⟩:=h;match vs,h1 with|[v],_=>exact⟨v,rfl,by simpa using h2 0 Ψ⟩
def rc2{w:World}{A:Nat->Prop}{x y:AV}(h:RC w A M vs [x,y]):∃v u,vs=[v,u]/\aD w A M v x/\aD w A M u y:=by obtain⟨h1,h2⟩:=h;match vs,h1 with|[v,u],_=>exact⟨v,u,rfl,by simpa using h2 0 Ψ,by simpa using h2 1 Ψ⟩
theorem xeZ{f:FuncId}{fn:Func}(hf:P.funcs[f]?=some fn)(hb:fn.body.isSome)(hn:(fn.name == "runtime.NumGoroutine")=false):fH P f:=⟨fn,hf,by cases h:fn.body<;>simp_all,hn⟩
def xoQ{H:List aC}{n:Nat}{bx:aC}(hb:H[n]?=some bx)(q:bW bx.ty=false):dW H (.b n) bx.ver=some bx:=by unfold dW;rw[iQ,hb];exact if_pos ⟨rfl,kG q⟩
def BoxAt.plainCells{w:World}{A:Nat->Prop}{B:Nat}{id:Id}{m:MB}{bx:aC}(h:BoxAt w A M B id m bx)(q:bW bx.ty=false)(h0:0<m.cap):∃c,w.heap[m.b]?=some (.cells c bx.ty (0,0))/\c.size=m.cap*m.sz/\∀i j,i<bx.xs.length->j<m.sz->aD w A (MP M bx.pm) (c.getD (i*m.sz+j) undef) ((bx.xs.getD i .top).cells.getD j .top):=by(obtain⟨c,c1,c2,c3⟩:=h.cells h0;have J:bx.ty=m.ty:=by rw[<-h.ty,lZ q]);refine⟨c,by rw[J];exact c1.plain (by rw[<-J];exact kG q),c2,λ i j hi hj=>?_⟩;have:=c3 i j hi hj;rw[jL q,jY q]at this;exact this
def xPD:Tryz.prog.follows .mixedOrders:=Θ
abbrev xQa:IV:=⟨Inv0 Tryz.prog,0,true⟩
end Go.Sim
