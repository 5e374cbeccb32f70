/- Part 8 of the proof of the law. -/
import Derived.Test.YtefdfdjimkinpaaGreatDoorTA7
import Derived.Lib.LaidTab
import Derived.Lib.ItoaNum
import Derived.Test.YtefdfdjimkinpaaGreatDoorProg
import Derived.ChangeAgain
set_option linter.defProp false
set_option linter.unusedVariables false
set_option linter.unusedSimpArgs false
set_option linter.unnecessarySimpa false
noncomputable section
namespace Go.Sim
open Go.RowKit Go.Proofs
structure Inv0 (P:Program) (w:World):Prop where
 sh:w.ShapedOpen P
 low:P.low<=w.heap.size
 tab:Lib.TabIs P w "internal/strconv.uint64pow10" .u64 Lib.pow10Tab
def xrO {P:Program} {w w':World} (h:Below w.heap.size w w') (hl:P.low<=w.heap.size):w.keptBut w' fun p=>w.heap.size<=p.block:=by
 refine ⟨h.os,h.output,fun i hi=>?_⟩
 rw [h.block i hi];cases hw:w.heap[i]? with
 | none=>rfl
 | some o=>cases o<;>first|rfl|exact ⟨rfl,rfl,rfl,fun _ _=>rfl⟩|exact .inr ⟨rfl,rfl⟩
def xIi (P:Program) (p:Nat) {b:Bool}:InvOk ⟨Inv0 P,p,b⟩:=⟨fun w w' h hb=>⟨h.sh.keptBut (xrO (P:=P) hb h.low) fun p hp=>Nat.le_trans h.low hp,Nat.le_trans h.low hb.size,by
 have ht:=h.tab;unfold Lib.TabIs World.var? at ht |-;cases hg:P.globalNamed "internal/strconv.uint64pow10" with
 | none=>rw [hg] at ht;simp at ht
 | some g =>
  rw [hg] at ht;simp only [Option.bind_some] at ht |-;have:g<w.heap.size:=by
   rcases zK g w.heap.size with h'|h'
   . exact h'
   . rw [Array.getElem?_eq_none h'] at ht;simp at ht
  rw [hb.block g this];exact ht⟩⟩
def rc1 {w:World} {A:Nat->Prop} {M:Id->Option MB} {vs:List Value} {x:AV} (h:RC w A M vs [x]):∃ v,vs=[v]/\Rel w A M v x:=by
 obtain ⟨h1,h2⟩:=h;match vs,h1 with
 | [v],_=>exact ⟨v,rfl,by simpa using h2 0 (by simp)⟩
def rc2 {w:World} {A:Nat->Prop} {M:Id->Option MB} {vs:List Value} {x y:AV} (h:RC w A M vs [x,y]):∃ v u,vs=[v,u]/\Rel w A M v x/\Rel w A M u y:=by
 obtain ⟨h1,h2⟩:=h;match vs,h1 with
 | [v,u],_=>exact ⟨v,u,rfl,by simpa using h2 0 (by simp),by simpa using h2 1 (by simp)⟩
def xfb {P:Program} {f:FuncId} {fn:Func} (hf:P.funcs[f]?=some fn) (hb:fn.body.isSome=true) (hn:(fn.name == "runtime.NumGoroutine")=false):Enters P f :=
 ⟨fn,hf,by cases h:fn.body<;>simp_all,hn⟩
def xky {H:List Box} {n:Nat} {bx:Box} (hb:H[n]?=some bx) (q:isC bx.ty=false):xIb H (.b n) bx.ver=some bx:=by
 unfold xIb;rw [xbG,hb];exact if_pos ⟨rfl,xaH q⟩
def BoxAt.plainCells {w:World} {A:Nat->Prop} {M:Id->Option MB} {B:Nat} {id:Id} {m:MB} {bx:Box} (h:BoxAt w A M B id m bx) (q:isC bx.ty=false) (h0:0<m.cap) :
  ∃ c,w.heap[m.b]?=some (.cells c bx.ty (0,0))/\c.size=m.cap*m.sz/\∀ i j,i<bx.xs.length->j<m.sz->Rel w A (MP M bx.pm) (c.getD (i*m.sz+j) undef) ((bx.xs.getD i .top).cells.getD j .top):=by
 obtain ⟨c,c1,c2,c3⟩:=h.cells h0;have D:bx.ty=m.ty:=by rw [<-h.ty,xbJ q]
 refine ⟨c,by rw [D];exact c1.plain (by rw [<-D];exact xaH q),c2,fun i j hi hj=>?_⟩
 have:=c3 i j hi hj;rw [xar q,xax q] at this;exact this
def xIh:Tryz.prog.follows .mixedOrders=true:=by kernel_rfl
abbrev xIQ:IV:=⟨Inv0 Tryz.prog,0,true⟩
end Go.Sim
