/- Part 6 of the proof of the law. -/
import Derived.Test.YtoemghmemdnelaaGreatDoorGP5
set_option linter.unusedVariables false
set_option linter.unusedSimpArgs false
set_option linter.unnecessarySimpa false
noncomputable section
namespace Go.Sim
open Go.RowKit
def mapC (r:AV→Option (Bool×AV)):List AV→Option (Bool×List AV)
 | []=>some (true,[])
 | x::xs=>match r x with
  | some (b,y)=>match mapC r xs with
   | some (c,ys)=>some (b&&c,y::ys)
   | none=>none
  | none=>none
def resEC (r:AV→Option (Bool×AV)):AV→Option (Bool×AV)
 | .agg cs=>match mapC r cs with
  | some (b,ds)=>some (b,.agg ds)
  | none=>none
 | x=>r x
def resC (H:List Box):Nat→AV→Option (Bool×AV)
 | 0,x=>some (x.pure,x)
 | n+1,x=>match x with
  | .agg cs=>match mapC (resC H n) cs with
   | some (b,ds)=>some (b,.agg ds)
   | none=>none
  | .func f cs=>match mapC (resC H n) cs with
   | some (b,ds)=>some (b,.func f ds)
   | none=>none
  | .own id ver i j=>match getV H id ver with
   | some (bv,bx)=>match isC bx.ty with
    | true=>none
    | false=>match bx.pm with
     | true=>some (bv&&decide (i<bx.xs.length),.eptr bx.sz bx.xs i j)
     | false=>match mapC (resEC (resC H n)) bx.xs with
      | some (b,ys)=>some (bv&&(b&&decide (i<bx.xs.length)),.eptr bx.sz ys i j)
      | none=>none
   | none=>none
  | .osl id ver off len=>match getV H id ver with
   | some (bv,bx)=>match isC bx.ty with
    | true=>match bx.pm with
     | true=>some (bv&&(decide (off+len≤bx.xs.length)&&rowsOk bx ((bx.xs.drop off).take len)),.list bx.sz ((bx.xs.drop off).take len))
     | false=>none
    | false=>match bx.pm with
     | true=>some (bv&&decide (off+len≤bx.xs.length),.list bx.sz ((bx.xs.drop off).take len))
     | false=>match mapC (resEC (resC H n)) ((bx.xs.drop off).take len) with
      | some (b,ys)=>some (bv&&(b&&decide (off+len≤bx.xs.length)),.list bx.sz ys)
      | none=>none
   | none=>none
  | x=>some (x.pure,x)
theorem xb5 {r:AV→Option (Bool×AV)} {q:AV→Option AV} (h:∀ x y,r x=some (true,y)→q x=some y):∀ {xs ys:List AV},mapC r xs=some (true,ys)→mapO q xs=some ys
 | [],ys,e=>by simp only [mapC,Option.some.injEq,Prod.mk.injEq,true_and] at e;subst e;rfl
 | x::xs,ys,e=>by
  unfold mapC at e
  split at e
  case h_2=>simp at e
  rename_i b y hx
  split at e
  case h_2=>simp at e
  rename_i c zs hz
  simp only [Option.some.injEq,Prod.mk.injEq,Bool.and_eq_true] at e
  obtain ⟨⟨rfl,rfl⟩,rfl⟩:=e
  unfold mapO
  rw [h _ _ hx,xb5 h hz]
theorem xcq {r:AV→Option (Bool×AV)}:∀ {xs ys:List AV},mapC r xs=some (true,ys)→∀ x,x∈xs→∃ y,r x=some (true,y)
 | [],ys,e,x,hx=>by simp at hx
 | x::xs,ys,e,z,hz=>by
  unfold mapC at e
  split at e
  case h_2=>simp at e
  rename_i b y hx
  split at e
  case h_2=>simp at e
  rename_i c zs hzs
  simp only [Option.some.injEq,Prod.mk.injEq,Bool.and_eq_true] at e
  obtain ⟨⟨rfl,rfl⟩,rfl⟩:=e
  rcases List.mem_cons.1 hz with rfl|hz
  · exact ⟨_,hx⟩
  · exact xcq hzs z hz
theorem xe1 {H:List Box} {n:Nat}:∀ {xs:List AV},AV.pures xs=true→mapO (resolve H n) xs=some xs
 | [],_=>rfl
 | x::xs,h=>by
  simp only [AV.pures,Bool.and_eq_true] at h
  unfold mapO
  rw [xb7 h.1,xe1 h.2]
theorem xgM {r:AV→Option (Bool×AV)} {q:AV→Option AV} (h:∀ x y,r x=some (true,y)→q x=some y) (x y:AV) (e:resEC r x=some (true,y)):resE q x=some y:=by
 cases x<;>first|exact h _ _ e|skip
 simp only [resEC] at e
 split at e
 case h_2=>simp at e
 rename_i b ds hd
 simp only [Option.some.injEq,Prod.mk.injEq] at e
 obtain ⟨rfl,rfl⟩:=e
 simp only [resE,xb5 h hd]
theorem xdJ {H:List Box}:∀ (n:Nat) (x y:AV),resC H n x=some (true,y)→resolve H n x=some y
 | 0,x,y,e=>by
  simp only [resC,Option.some.injEq,Prod.mk.injEq] at e
  rw [←e.2];exact xb7 e.1
 | n+1,x,y,e=>by
  have ih:=xdJ (H:=H) n
  unfold resC at e
  split at e
  · rename_i cs
    split at e
    case h_2=>simp at e
    rename_i b ds hd
    simp only [Option.some.injEq,Prod.mk.injEq] at e
    obtain ⟨rfl,rfl⟩:=e
    have hm:=xb5 ih hd
    by_cases hp:AV.pures cs=true
    · rw [xe1 hp] at hm;simp only [Option.some.injEq] at hm;subst hm
      exact xb7 (by simpa [AV.pure] using hp)
    · unfold resolve
      rw [if_neg (by simpa [AV.pure] using hp)]
      simp only [hm]
  · rename_i f cs
    split at e
    case h_2=>simp at e
    rename_i b ds hd
    simp only [Option.some.injEq,Prod.mk.injEq] at e
    obtain ⟨rfl,rfl⟩:=e
    have hm:=xb5 ih hd
    by_cases hp:AV.pures cs=true
    · rw [xe1 hp] at hm;simp only [Option.some.injEq] at hm;subst hm
      exact xb7 (by simpa [AV.pure] using hp)
    · unfold resolve
      rw [if_neg (by simpa [AV.pure] using hp)]
      simp only [hm]
  · rename_i id ver i j
    split at e
    case h_2=>simp at e
    rename_i bv bx hb
    unfold resolve
    rw [if_neg (by simp [AV.pure])]
    split at e
    · simp at e
    rename_i hpl
    split at e
    · rename_i hpm
      simp only [Option.some.injEq,Prod.mk.injEq,Bool.and_eq_true,decide_eq_true_eq] at e
      obtain ⟨⟨rfl,h2⟩,rfl⟩:=e
      simp only [xan hb,mapE,hpm,if_true]
      exact if_pos ⟨h2,hpl⟩
    · rename_i hpm
      split at e
      case h_2=>simp at e
      rename_i b ys hy
      simp only [Option.some.injEq,Prod.mk.injEq,Bool.and_eq_true,decide_eq_true_eq] at e
      obtain ⟨⟨rfl,rfl,h2⟩,rfl⟩:=e
      simp only [xan hb,mapE,hpm,Bool.false_eq_true,if_false,xb5 (xgM ih) hy]
      exact if_pos ⟨h2,hpl⟩
  · rename_i id ver off len
    split at e
    case h_2=>simp at e
    rename_i bv bx hb
    unfold resolve
    rw [if_neg (by simp [AV.pure])]
    split at e
    · split at e
      case h_2=>simp at e
      rename_i hpm
      simp only [Option.some.injEq,Prod.mk.injEq,Bool.and_eq_true,decide_eq_true_eq] at e
      obtain ⟨⟨rfl,h2,h3⟩,rfl⟩:=e
      simp only [xan hb,mapE,hpm,if_true]
      exact if_pos ⟨h2,h3⟩
    rename_i hpl
    have hro:rowsOk bx ((bx.xs.drop off).take len)=true:=by unfold rowsOk;rw [hpl]
    split at e
    · rename_i hpm
      simp only [Option.some.injEq,Prod.mk.injEq,Bool.and_eq_true,decide_eq_true_eq] at e
      obtain ⟨⟨rfl,h2⟩,rfl⟩:=e
      simp only [xan hb,mapE,hpm,if_true]
      exact if_pos ⟨h2,hro⟩
    · rename_i hpm
      split at e
      case h_2=>simp at e
      rename_i b ys hy
      simp only [Option.some.injEq,Prod.mk.injEq,Bool.and_eq_true,decide_eq_true_eq] at e
      obtain ⟨⟨rfl,rfl,h2⟩,rfl⟩:=e
      simp only [xan hb,mapE,hpm,Bool.false_eq_true,if_false,xb5 (xgM ih) hy]
      exact if_pos ⟨h2,hro⟩
  · simp only [Option.some.injEq,Prod.mk.injEq] at e
    rw [←e.2];exact xb7 e.1
def getF (H:List Box):Id→Option Box
 | .b n=>H[n]?
 | .r n i j=>match H[n]? with
  | some bx=>match isSlot bx.ty j,bx.pm with
   | true,true=>some ⟨2*((bx.xs.getD i .top).cells.getD j .top).toList.length,rowSz bx.ty,rowTy bx.ty,((bx.xs.getD i .top).cells.getD j .top).toList,bx.frz,true⟩
   | _,_=>none
  | none=>none
def reachC (H:List Box):Nat→AV→List Nat
 | 0,_=>[]
 | n+1,x=>match x with
  | .agg cs=>cs.flatMap (reachC H n)
  | .func _ cs=>cs.flatMap (reachC H n)
  | .own id _ _ _=>id.base::(match getF H id with|some bx=>(match bx.pm with|true=>[]|false=>bx.xs.flatMap fun (e:AV)=>e.cells.flatMap (reachC H n))|none=>[])
  | .osl id _ off len=>id.base::(match getF H id with|some bx=>(match bx.pm with|true=>[]|false=>((bx.xs.drop off).take len).flatMap fun (e:AV)=>e.cells.flatMap (reachC H n))|none=>[])
  | _=>[]
theorem xa1 {α β:Type} {f g:α→List β}:∀ {l:List α},(∀ x,x∈l→f x=g x)→l.flatMap f=l.flatMap g
 | [],_=>rfl
 | x::xs,h=>by
  rw [List.flatMap_cons,List.flatMap_cons,h x (by simp),xa1 fun y hy=>h y (by simp [hy])]
theorem xdl {α β:Type} {f:α→List β}:∀ {l:List α},(∀ x,x∈l→f x=[])→l.flatMap f=[]
 | [],_=>rfl
 | x::xs,h=>by
  rw [List.flatMap_cons,h x (by simp),xdl fun y hy=>h y (by simp [hy])];rfl
theorem xhG {xs:List AV} (h:AV.pures xs=true) {x:AV} (hx:x∈xs):x.pure=true:=by
 rw [xf0,List.all_eq_true] at h;exact h x hx
theorem xfV {H:List Box} {id:Id} {ver:Nat} {b:Bool} {bx:Box} (h:getV H id ver=some (b,bx)):getF H id=some bx:=by
 unfold getV at h
 unfold getF
 split at h
 · split at h
   · rename_i bx' hb
     split at h
     · simp at h
     · simp only [Option.some.injEq,Prod.mk.injEq] at h;simp only [hb,h.2]
   · simp at h
 · split at h
   case h_2=>simp at h
   rename_i bx' hb
   split at h
   case h_2=>simp at h
   rename_i hs hp
   simp only [Option.some.injEq,Prod.mk.injEq] at h
   simp only [hb,hs,hp,h.2]
theorem xfK {r:AV→Option (Bool×AV)} {e y:AV} (h:resEC r e=some (true,y)):∀ c,c∈e.cells→∃ d,r c=some (true,d):=by
 intro c hc
 cases e<;>first|(simp only [AV.cells,List.mem_singleton] at hc;subst hc;exact ⟨_,h⟩)|skip
 simp only [resEC] at h
 split at h
 case h_2=>simp at h
 rename_i b ds hd
 simp only [Option.some.injEq,Prod.mk.injEq] at h
 obtain ⟨rfl,_⟩:=h
 exact xcq hd c hc
theorem xdX {H:List Box}:∀ (n:Nat) (x y:AV),resC H n x=some (true,y)→reach H n x=reachC H n x
 | 0,x,y,e=>by simp [reach,reachC]
 | n+1,x,y,e=>by
  have ih:=xdX (H:=H) n
  unfold resC at e
  split at e
  · rename_i cs
    split at e
    case h_2=>simp at e
    rename_i b ds hd
    simp only [Option.some.injEq,Prod.mk.injEq] at e
    obtain ⟨rfl,rfl⟩:=e
    have h1:cs.flatMap (reach H n)=cs.flatMap (reachC H n):=xa1 fun c hc=>by obtain ⟨d,hd'⟩:=xcq hd c hc;exact ih c d hd'
    unfold reach
    simp only [reachC]
    split
    · rename_i hp
      rw [←h1,xdl fun c hc=>xen (xhG (by simpa [AV.pure] using hp) hc)]
    · exact h1
  · rename_i f cs
    split at e
    case h_2=>simp at e
    rename_i b ds hd
    simp only [Option.some.injEq,Prod.mk.injEq] at e
    obtain ⟨rfl,rfl⟩:=e
    have h1:cs.flatMap (reach H n)=cs.flatMap (reachC H n):=xa1 fun c hc=>by obtain ⟨d,hd'⟩:=xcq hd c hc;exact ih c d hd'
    unfold reach
    simp only [reachC]
    split
    · rename_i hp
      rw [←h1,xdl fun c hc=>xen (xhG (by simpa [AV.pure] using hp) hc)]
    · exact h1
  · rename_i id ver i j
    split at e
    case h_2=>simp at e
    rename_i bv bx hb
    unfold reach
    rw [if_neg (by simp [AV.pure])]
    split at e
    · simp at e
    have hbv:bv=true:=by
     split at e
     · simp only [Option.some.injEq,Prod.mk.injEq,Bool.and_eq_true] at e;exact e.1.1
     · split at e
       case h_2=>simp at e
       simp only [Option.some.injEq,Prod.mk.injEq,Bool.and_eq_true] at e;exact e.1.1
    subst hbv
    simp only [reachC,xfV hb,(xaf (xan hb)).1]
    congr 1
    split at e
    · rename_i hpm;simp only [hpm,if_true]
    · rename_i hpm
      split at e
      case h_2=>simp at e
      rename_i b ys hy
      simp only [Option.some.injEq,Prod.mk.injEq,Bool.and_eq_true] at e
      obtain ⟨⟨_,rfl,_⟩,_⟩:=e
      simp only [hpm,Bool.false_eq_true,if_false]
      exact xa1 fun e he=>xa1 fun c hc=>by
       obtain ⟨y,hy'⟩:=xcq hy e he
       obtain ⟨d,hd⟩:=xfK hy' c hc
       exact ih c d hd
  · rename_i id ver off len
    split at e
    case h_2=>simp at e
    rename_i bv bx hb
    unfold reach
    rw [if_neg (by simp [AV.pure])]
    split at e
    · split at e
      case h_2=>simp at e
      rename_i hpm
      simp only [Option.some.injEq,Prod.mk.injEq,Bool.and_eq_true] at e
      obtain ⟨⟨rfl,_⟩,_⟩:=e
      simp only [reachC,xfV hb,(xaf (xan hb)).1,hpm,if_true]
    have hbv:bv=true:=by
     split at e
     · simp only [Option.some.injEq,Prod.mk.injEq,Bool.and_eq_true] at e;exact e.1.1
     · split at e
       case h_2=>simp at e
       simp only [Option.some.injEq,Prod.mk.injEq,Bool.and_eq_true] at e;exact e.1.1
    subst hbv
    simp only [reachC,xfV hb,(xaf (xan hb)).1]
    congr 1
    split at e
    · rename_i hpm;simp only [hpm,if_true]
    · rename_i hpm
      split at e
      case h_2=>simp at e
      rename_i b ys hy
      simp only [Option.some.injEq,Prod.mk.injEq,Bool.and_eq_true] at e
      obtain ⟨⟨_,rfl,_⟩,_⟩:=e
      simp only [hpm,Bool.false_eq_true,if_false]
      exact xa1 fun e he=>xa1 fun c hc=>by
       obtain ⟨y,hy'⟩:=xcq hy e he
       obtain ⟨d,hd⟩:=xfK hy' c hc
       exact ih c d hd
  · simp only [Option.some.injEq,Prod.mk.injEq] at e
    rw [xen e.1]
    rename_i h1 h2 h3 h4
    cases x<;>first|rfl|exact (h1 _ rfl).elim|exact (h2 _ _ rfl).elim|exact (h3 _ _ _ _ rfl).elim|exact (h4 _ _ _ _ rfl).elim
theorem xjR {H:List Box} {n:Nat} {xs ys:List AV} (h:mapC (resC H n) xs=some (true,ys)):xs.flatMap (reach H n)=xs.flatMap (reachC H n) :=
 xa1 fun c hc=>by obtain ⟨d,hd⟩:=xcq h c hc;exact xdX n c d hd
def afterC (H:List Box) (args:List AV) (r:AV):List Box:=if r.flat=true then H else freeze H (args.flatMap (reachC H rfuel))
theorem xkH {H:List Box} {xs ys:List AV} (h:mapC (resC H rfuel) xs=some (true,ys)) (r:AV):afterC H xs r=afterCall H xs r:=by
 unfold afterC afterCall
 rw [xjR h]
inductive LR where
 | leaf (e:Exit) (out:List AV) (H:List Box)
 | node (t:Bool) (a b:LR)
def LR.eval:LR→Exit×List AV×List Box
 | .leaf e o H=>(e,o,H)
 | .node t a b=>match t with
  | true=>a.eval
  | false=>b.eval
def LR.run {T:Type} (f:Exit→List AV→List Box→T):LR→T
 | .leaf e o H=>f e o H
 | .node t a b=>br t (a.run f) (b.run f)
theorem LR.run_good {T:Type} {good:T→Prop} {f:Exit→List AV→List Box→T}:∀ {r:LR},good (r.run f)→good (f r.eval.1 r.eval.2.1 r.eval.2.2)
 | .leaf e o H,h=>h
 | .node true a b,h=>LR.run_good (r:=a) h
 | .node false a b,h=>LR.run_good (r:=b) h
structure Lp where
 live:List Nat
 liveO:List Nat
 conv:List (Nat×Nat×TypeId)
 run:List AV→List Box→Option (Bool×LR)
structure Env where
 orc:FuncId→List AV→Option (Bool×AV)
 isM:FuncId→Bool
 orcM:FuncId→List AV→List Box→Option (Bool×AV×List Box)
 lp:Nat→Option Lp
 nt:Nat
 fuel:Nat
 pin:Nat
 ls:TypeId→Bool
def codeId:Code→Nat
 | .region id _ _=>id
 | .seq a _=>codeId a
 | .block _ c=>codeId c
 | .loop c=>codeId c
 | .cond _ a _=>codeId a
 | _=>0
def loopsOf:Code→List Code
 | .seq a b=>loopsOf a++loopsOf b
 | .block _ c=>loopsOf c
 | .loop c=>c::loopsOf c
 | .cond _ a b=>loopsOf a++loopsOf b
 | _=>[]
def condsOf:Code→List Code
 | .seq a b=>condsOf a++condsOf b
 | .block _ c=>condsOf c
 | .loop c=>condsOf c
 | .cond t a b=>.cond t a b::(condsOf a++condsOf b)
 | _=>[]
def condId:Code→Nat
 | .cond _ a _=>1000000+codeId a
 | _=>0
def OrcOk (P:Program) (Inv:IV) (E:Env):Prop:=(∀ g args r,E.orc g args=some (true,r)→Good P Inv g args r)∧∀ g args H r H',E.orcM g args H=some (true,r,H')→GoodM P Inv g args H r H'
def LoopOk (P:Program) (Inv:IV) (nt:Nat) (l:Code) (lp:Lp):Prop :=
 ∀ vals H r,lp.run vals H=some (true,r)→DoesL P Inv l (fun e1 s1=>e1=r.eval.1∧s1=⟨mkTs nt (lp.liveO.zip r.eval.2.1),r.eval.2.2⟩) ⟨mkTs nt (lp.live.zip vals),H⟩
def PieceOk (P:Program) (Inv:IV) (nt:Nat) (d:Code) (lp:Lp):Prop :=
 ∀ vals H r,lp.run vals H=some (true,r)→Does P Inv d (fun e1 s1=>e1=r.eval.1∧s1=⟨mkTs nt (lp.liveO.zip r.eval.2.1),r.eval.2.2⟩) ⟨mkTs nt (lp.live.zip vals),H⟩
def LoOk (P:Program) (Inv:IV) (E:Env) (c:Code):Prop:=(∀ l,l∈loopsOf c→∀ lp,E.lp (codeId l)=some lp→LoopOk P Inv E.nt l lp)∧∀ d,d∈condsOf c→∀ lp,E.lp (condId d)=some lp→PieceOk P Inv E.nt d lp
theorem LoOk.sub {P:Program} {Inv:IV} {E:Env} {c c':Code} (h:LoOk P Inv E c) (h1:∀ l,l∈loopsOf c'→l∈loopsOf c) (h2:∀ d,d∈condsOf c'→d∈condsOf c):LoOk P Inv E c':=⟨fun l hl=>h.1 l (h1 l hl),fun d hd=>h.2 d (h2 d hd)⟩
theorem xgk {P:Program} {Inv:IV} {c:Code} {s s':St} {Q:Exit→St→Prop} (hw:Weak Inv.pin s s') (h:DoesL P Inv c Q s'):DoesL P Inv c Q s :=
 fun w0 A0 w A M a Qc hI hp hs hQ=>by
  obtain ⟨A'',M'',hs''⟩:=hw w0 A0 w A M a hp hs
  exact h w0 A0 w A'' M'' a Qc hI hp hs'' hQ
theorem xkO {P:Program} {Inv:IV} {c:Code} {s s':St} {Q:Exit→St→Prop} (hw:Weak Inv.pin s s') (h:Does P Inv c Q s'):Does P Inv c Q s :=
 fun w0 A0 w A M a Qc hI hp hs hQ=>by
  obtain ⟨A'',M'',hs''⟩:=hw w0 A0 w A M a hp hs
  exact h w0 A0 w A'' M'' a Qc hI hp hs'' hQ
section exec
variable {T : Type} (P : Program) (E : Env) (bad : T)
def xplain (imp:Bool) (o:Oper) (s:St) (K:St→T):T :=
 if isImp o.op=true then
  (if imp=true then match iopC P s.eval s.heap o.op with
   | some (b,x,H)=>br b (force x fun x'=>putK s.tmps o.dst x' fun ts=>forceH H fun H'=>K ⟨ts,H'⟩) bad
   | none=>bad
  else bad)
 else match fopC P E.ls s.eval s.heap s.heap.length o.op with
  | some (b,x,nb)=>br b (force x fun x'=>putK s.tmps o.dst x' fun ts=>forceH (s.heap++nb.toList) fun H'=>K ⟨ts,H'⟩) bad
  | none=>bad
def xcallM (o:Oper) (c:Call) (s:St) (K:St→T):T :=
 match callTarget s c with
 | some (g,args) =>
  let ids:=gather s.heap 1000 (refsOf.refsL args) []
  match nodupB ids with
  | true=>match subBoxes (inF ids) s.heap ids with
   | some H0=>forces (rens (inF ids) args) fun aS=>forceH H0 fun H0=>match E.orcM g aS H0 with
    | some (b,r0,H0')=>br b (force (ren (outF ids s.heap.length ids.length) r0) fun r'=>putK s.tmps o.dst r' fun ts=>forceH (outHeap s.heap ids H0') fun H'=>K ⟨ts,H'⟩) bad
    | none=>bad
   | none=>bad
  | false=>bad
 | none=>bad
def contOf (H:List Box):List AV→Option Nat
 | []=>none
 | .osl (.b n) _ _ _::r=>match H[n]? with
  | some bx=>match isC bx.ty with
   | true=>some n
   | false=>contOf H r
  | none=>contOf H r
 | _::r=>contOf H r
def xcallU (o:Oper) (c:Call) (s:St) (K:St→T):T :=
 match callTarget s c with
 | some (_,args)=>match contOf s.heap args with
  | some n=>match s.heap[n]? with
   | some bx=>match isC bx.ty&&!isMapT bx.ty with
    | true=>br (rowsOk bx bx.xs) (forceH (s.heap.set n ⟨bx.ver,bx.sz,rty bx.ty,bx.xs,bx.frz,true⟩) fun H=>xcallM E bad o c ⟨s.tmps,H⟩ K) bad
    | false=>bad
   | none=>bad
  | none=>xcallM E bad o c s K
 | none=>bad
def callIsM (s:St) (c:Call):Bool:=match callTarget s c with
 | some (g,_)=>E.isM g
 | none=>false
def xcall (o:Oper) (c:Call) (s:St) (K:St→T):T :=
 match callTarget s c with
 | some (g,args)=>match mapC (resC s.heap rfuel) args with
  | some (b,args')=>br b (forces args' fun aS=>match E.orc g aS with
   | some (b2,r)=>br b2 (force r fun r'=>putK s.tmps o.dst r' fun ts=>forceH (afterC s.heap args r') fun H'=>K ⟨ts,H'⟩) bad
   | none=>bad) bad
  | none=>bad
 | none=>bad
def xop (imp:Bool) (o:Oper) (s:St) (K:St→T):T :=
 match o.op with
 | .pick c a b=>match s.eval c with
  | .bool t=>br t (force (s.eval a) fun x=>putK s.tmps o.dst x fun ts=>K ⟨ts,s.heap⟩) (force (s.eval b) fun x=>putK s.tmps o.dst x fun ts=>K ⟨ts,s.heap⟩)
  | _=>bad
 | .call c=>match c.callee with
  | .value _=>match callIsM E s c with
   | true=>match imp with
    | true=>xcallU E bad o c s K
    | false=>bad
   | false=>xcall E bad o c s K
  | _=>xplain P E bad imp o s K
 | _=>xplain P E bad imp o s K
def stlV (H:List Box):AV→Bool×AV×List Nat
 | .osl id ver off len=>match resC H rfuel (.osl id ver off len) with
  | some (b,y)=>(b,y,reachC H rfuel (.osl id ver off len))
  | none=>(false,.top,[])
 | x=>(true,x,[])
def stlAll (H:List Box) (ts0:List AV):List Nat→Bool×List AV×List Nat
 | []=>(true,ts0,[])
 | t::r=>match stlAll H ts0 r with
  | (b,ts,ids)=>match stlV H (ts0.getD t .top) with
   | (b',y,ids')=>(b'&&b,ts.set t y,ids'++ids)
def oslTs (ts:List AV):List Operand→List Nat
 | []=>[]
 | .tmp t::r=>match ts.getD t .top with
  | .osl _ _ _ _=>t::oslTs ts r
  | _=>oslTs ts r
 | _::r=>oslTs ts r
def oslMix (H:List Box) (ts:List AV):Operand→List Nat
 | .tmp t=>match ts.getD t .top with
  | .osl (.b id) _ _ _=>match H[id]? with
   | some bx=>match bx.pm with
    | true=>[]
    | false=>[t]
   | none=>[]
  | _=>[]
 | _=>[]
def needS (s:St) (o:Oper):List Nat:=match o.op with
 | .buildSlice t _ _=>match P.underlying t with
  | some (.slice e)=>match E.ls e with
   | true=>oslTs s.tmps o.op.operands.toList
   | false=>[]
  | _=>[]
 | .build t _=>match E.ls t with
  | true=>oslTs s.tmps o.op.operands.toList
  | false=>[]
 | .call c=>match c.callee with
  | .builtin b=>match b,c.argTypes.toList,c.args.toList with
   | .append,[t,_],[_,x]=>match P.underlying t with
    | some (.slice e)=>match E.ls e with
     | true=>oslMix s.heap s.tmps x
     | false=>[]
    | _=>[]
   | _,_,_=>[]
  | _=>[]
 | _=>[]
def xset (tl:List Nat) (o:Oper) (s:St) (K:St→T):T:=match stlAll s.heap s.tmps tl with
 | (b,ts1,ids)=>br b (forces ts1 fun ts1=>forceH (freeze s.heap ids) fun H1=>match isImp o.op with
  | true=>match iopC P (St.eval ⟨ts1,H1⟩) H1 o.op with
   | some (b2,x,H2)=>br b2 (force x fun x'=>putK s.tmps o.dst x' fun ts=>forceH H2 fun H'=>K ⟨ts,H'⟩) bad
   | none=>bad
  | false=>match fopC P E.ls (St.eval ⟨ts1,H1⟩) H1 H1.length o.op with
  | some (b2,x,nb)=>br b2 (force x fun x'=>putK s.tmps o.dst x' fun ts=>forceH (H1++nb.toList) fun H'=>K ⟨ts,H'⟩) bad
  | none=>bad) bad
def xfrz (o:Oper) (s:St) (K:St→T):T:=match fopBC s.eval o.op with
 | some (b,x)=>br b (force x fun x'=>putK s.tmps o.dst x' fun ts=>K ⟨ts,s.heap⟩) bad
 | none=>bad
def xopS (imp:Bool) (o:Oper) (s:St) (K:St→T):T:=match needS P E s o with
 | []=>match frzOp E.ls o.op with
  | true=>xfrz bad o s K
  | false=>xop P E bad imp o s K
 | t::r=>match imp with
  | true=>xset P E bad (t::r) o s K
  | false=>bad
def xguard (ops:Array Oper) (o:Oper) (s:St) (K:Bool→St→T):T :=
 match o.guard with
 | none=>K true s
 | some (j,want)=>match dstOf ops j with
  | none=>K false s
  | some d=>match s.tmps[d]? with
   | none=>K false s
   | some (.bool t)=>br t (setK s.tmps d (.bool true) fun ts=>K (true==want) ⟨ts,s.heap⟩) (setK s.tmps d (.bool false) fun ts=>K (false==want) ⟨ts,s.heap⟩)
   | some (.tuple _)=>K false s
   | _=>bad
def xopE (o:Oper) (s:St) (K:St→T):T:=match fopEC P s.eval s.heap s.heap.length o.op with
 | some (b,x,nb)=>br b (force x fun x'=>putK s.tmps o.dst x' fun ts=>forceH (s.heap++nb.toList) fun H'=>K ⟨ts,H'⟩) bad
 | none=>xop P E bad false o s K
def xopM (md:Option Bool) (o:Oper) (s:St) (K:St→T):T:=match md with
 | some imp=>xopS P E bad imp o s K
 | none=>xopE P E bad o s K
def xOps (imp:Option Bool) (ops:Array Oper):List Oper→St→(St→T)→T
 | [],s,K=>K s
 | o::rest,s,K=>xguard bad ops o s fun b s1=>match b with
  | true=>xopM P E bad imp o s1 fun s'=>xOps imp ops rest s' K
  | false=>putK s1.tmps o.dst (.tuple []) fun ts=>xOps imp ops rest ⟨ts,s1.heap⟩ K
def impOp (o:Oper):Bool:=match o.op with
 | .call c=>match c.callee with
  | .value (.func g)=>E.isM g
  | _=>isImp o.op
 | _=>isImp o.op
def freeN:List Oper→Nat
 | []=>0
 | o::l=>match impOp E o with
  | true=>0
  | false=>freeN l+1
def xTail (ops:Array Oper) (m:Nat):Nat→List Oper→St→(St→T)→T
 | _,[],s,K=>K s
 | k,o::rest,s,K=>match outT ops m ((masks ops).getD k 0) with
  | []=>xguard bad ops o s fun b s1=>match b with
   | true=>xopS P E bad true o s1 fun s'=>xTail ops m (k+1) rest s' K
   | false=>putK s1.tmps o.dst (.tuple []) fun ts=>xTail ops m (k+1) rest ⟨ts,s1.heap⟩ K
  | d::ds=>match o.guard with
   | none=>forces (maskT (d::ds) s.tmps) fun ms=>xopS P E bad true o ⟨ms,s.heap⟩ fun s'=>forces (restT (d::ds) s.tmps s'.tmps) fun ts=>xTail ops m (k+1) rest ⟨ts,s'.heap⟩ K
   | some _=>bad
def cutN (ops:Array Oper):Nat:=match regOk false ops (freeN E ops.toList) with
 | true=>freeN E ops.toList
 | false=>freeN E ops.toList - 1
def appTo (o:Oper):Option Tmp:=match o.op with
 | .call c=>match c.callee with
  | .builtin b=>match b,c.args.toList with
   | .append,[.tmp d,_]=>some d
   | _,_=>none
  | _=>none
 | _=>none
def lit0 (o:Oper):Option Tmp:=match o.op with
 | .buildSlice _ len _=>match len with
  | 0=>o.dst
  | _+1=>none
 | _=>none
def freeE (lits:List Tmp):List Oper→Nat
 | []=>0
 | o::l=>match impOp E o with
  | true=>match appTo o with
   | some d=>match (posOf lits d).isSome with
    | true=>freeE lits l+1
    | false=>0
   | none=>0
  | false=>freeE lits l+1
def cutE (ops:Array Oper):Nat:=freeE E (ops.toList.filterMap lit0) ops.toList
def ptrsOk (ops:Array Oper) (m:Nat) (s:St):Bool:=(List.range m).all fun i=>match ops[i]? with
 | some o=>match isFloat true ops m i with
  | true=>ptrOk s.eval o.op
  | false=>true
 | none=>true
theorem xiW {ops:Array Oper} {m:Nat} {s:St} (h:ptrsOk ops m s=true):∀ i o,i<m→ops[i]?=some o→isFloat true ops m i=true→ptrOk s.eval o.op=true:=fun i o hi ho hf=>by
 have:=List.all_eq_true.1 h i (List.mem_range.2 hi)
 simp only [ho,hf] at this
 exact this
theorem xgn {ops:Array Oper} {m:Nat} {s:St}:∀ i o,i<m→ops[i]?=some o→isFloat false ops m i=true→ptrOk s.eval o.op=true:=fun i o _ ho hf=>by
 obtain ⟨o',ho',h,_⟩:=xb3 hf
 rw [ho] at ho';simp only [Option.some.injEq] at ho';subst ho'
 exact xlB h
def xReg (ops:Array Oper) (draw:Bool) (s:St) (K:St→T):T :=
 if draw=true then
  if (decide (cutN E ops≤ops.size)&&regOk false ops (cutN E ops))=true then
   xOps P E bad (some false) ops (ops.toList.take (cutN E ops)) s fun s1=>xTail P E bad ops (cutN E ops) (cutN E ops) (ops.toList.drop (cutN E ops)) s1 K
  else if (decide (cutE E ops≤ops.size)&&regOk false ops (cutE E ops))=true then
   xOps P E bad none ops (ops.toList.take (cutE E ops)) s fun s1=>xTail P E bad ops (cutE E ops) (cutE E ops) (ops.toList.drop (cutE E ops)) s1 K
  else if (decide (freeN E ops.toList≤ops.size)&&regOk true ops (freeN E ops.toList))=true then
   xOps P E bad (some false) ops (ops.toList.take (freeN E ops.toList)) s fun s1=>match ptrsOk ops (freeN E ops.toList) s1 with
    | true=>xTail P E bad ops (freeN E ops.toList) (freeN E ops.toList) (ops.toList.drop (freeN E ops.toList)) s1 K
    | false=>bad
  else bad
 else xOps P E bad (some true) ops ops.toList s K
def xloop (R:St→(Exit→St→T)→T):Nat→St→(Exit→St→T)→T
 | 0,_,_=>bad
 | n+1,s,K=>R s fun e s'=>match e with
  | .normal=>xloop R n s' K
  | e=>K e s'
def xpiece (lp:Lp) (s:St) (K:Exit→St→T) (F:T):T:=match normS E.pin lp.conv lp.live s with
 | some (vals,H0)=>forces vals fun vals=>forceH H0 fun H0=>match lp.run vals H0 with
  | some (b,r)=>br (Nat.beq s.tmps.length E.nt) (br b (r.run fun e out H'=>forces (mkTs E.nt (lp.liveO.zip out)) fun ts=>forceH H' fun H''=>K e ⟨ts,H''⟩) bad) bad
  | none=>F
 | none=>F
def xpeel (lp:Lp) (R:St→(Exit→St→T)→T):Nat→St→(Exit→St→T)→T
 | 0,s,K=>xpiece E bad lp s K bad
 | n+1,s,K=>xpiece E bad lp s K (R s fun e s'=>match e with
  | .normal=>xpeel lp R n s' K
  | e=>K e s')
def X:Code→St→(Exit→St→T)→T
 | .skip,s,K=>K .normal s
 | .region _ ops draw,s,K=>xReg P E bad ops draw s (K .normal)
 | .seq a b,s,K=>X a s fun e s'=>match e with
  | .normal=>X b s' K
  | e=>K e s'
 | .cond c a b,s,K=>match E.lp (1000000+codeId a) with
  | some lp=>xpiece E bad lp s K bad
  | none=>match s.eval c with
   | .bool t=>br t (X a s K) (X b s K)
   | _=>bad
 | .block id c,s,K=>X c s fun e s'=>match e with
  | .exit id'=>if id'=id then K .normal s' else K (.exit id') s'
  | e=>K e s'
 | .loop c,s,K=>match E.lp (codeId c) with
  | some lp=>xpeel E bad lp (fun s K=>X c s K) 2 s K
  | none=>xloop bad (fun s K=>X c s K) E.fuel s K
 | .exit id,s,K=>K (.exit id) s
 | .ret,s,K=>K .ret s
 | _,_,_=>bad
end exec
section sound
variable {T : Type} {P : Program} {Inv : IV} {E : Env} {bad : T} {good : T → Prop}
theorem xaY (hbad:¬ good bad) {t:Bool} {a:T} (h:good (br t a bad)):t=true∧good a:=by
 cases t with
 | true=>exact ⟨rfl,h⟩
 | false=>exact (hbad h).elim
theorem xff (hbad:¬ good bad) {imp:Bool} {o:Oper} {s:St} {K:St→T} (h:good (xplain P E bad imp o s K)) :
  if isImp o.op=true then imp=true∧istep P o s (fun s'=>good (K s')) else fstep P o s (fun s'=>good (K s')):=by
 unfold xplain at h
 split
 · rename_i hi
   rw [if_pos hi] at h
   split at h
   case isFalse=>exact (hbad h).elim
   rename_i him
   refine ⟨him,?_⟩
   split at h
   case h_2=>exact (hbad h).elim
   rename_i b x H hx
   obtain ⟨rfl,h⟩:=xaY hbad h
   rw [xaT,xbm,xaz] at h
   unfold istep
   rw [xhs hx]
   exact h
 · rename_i hi
   rw [if_neg hi] at h
   split at h
   case h_2=>exact (hbad h).elim
   rename_i b x nb hx
   obtain ⟨rfl,h⟩:=xaY hbad h
   rw [xaT,xbm,xaz] at h
   unfold fstep
   rw [xho hx]
   exact h
theorem xfQ (hbad:¬ good bad) (hor:OrcOk P Inv E) {o:Oper} {c:Call} {s:St} {K:St→T} (h:good (xcall E bad o c s K)):CallF P Inv s c o.dst (fun s'=>good (K s')):=by
 unfold xcall at h
 split at h
 case h_2=>exact (hbad h).elim
 rename_i g args hct
 split at h
 case h_2=>exact (hbad h).elim
 rename_i b args' hm
 have ⟨e1,h1⟩:=xaY hbad h
 clear h
 subst e1
 rw [xat] at h1
 split at h1
 case h_2=>exact (hbad h1).elim
 rename_i b2 r hr
 have ⟨e2,h⟩:=xaY hbad h1
 clear h1
 subst e2
 rw [xaT,xbm,xaz,xkH hm] at h
 exact xjw hct (xb5 (xdJ rfuel) hm) (hor.1 _ _ _ hr) h
theorem xlY {s:St} {c:Call} {d:Option Tmp} {K:St→Prop} (h:CallF P Inv s c d K):CallK P Inv s c d K:=by
 obtain ⟨s',h1,h2⟩:=h
 exact ⟨s',.inl h1,h2⟩
theorem xeG (hbad:¬ good bad) (hor:OrcOk P Inv E) {o:Oper} {c:Call} {s:St} {K:St→T} (h:good (xcallM E bad o c s K)):∃ s',OpI0 P Inv s ⟨o.dst,.call c,0, "",#[],none⟩ s'∧good (K s'):=by
 unfold xcallM at h
 split at h
 case h_2=>exact (hbad h).elim
 rename_i g args hct
 simp only at h
 generalize gather s.heap 1000 (refsOf.refsL args) []=ids at h
 split at h
 case h_2=>exact (hbad h).elim
 rename_i hnd
 split at h
 case h_2=>exact (hbad h).elim
 rename_i H0 hsub
 rw [xat,xaz] at h
 split at h
 case h_2=>exact (hbad h).elim
 rename_i b r0 H0' hr
 obtain ⟨rfl,h⟩:=xaY hbad h
 rw [xaT,xbm,xaz] at h
 exact ⟨_,.inr (.inl ⟨c,g,args,ids,H0,r0,H0',rfl,hct,hnd,hsub,hor.2 _ _ _ _ _ hr,rfl⟩),h⟩
theorem xiC (hbad:¬ good bad) (hor:OrcOk P Inv E) {o:Oper} {c:Call} {s:St} {K:St→T} (h:good (xcallU E bad o c s K)):CallK P Inv s c o.dst (fun s'=>good (K s')):=by
 unfold xcallU at h
 split at h
 case h_2=>exact (hbad h).elim
 split at h
 · rename_i n hn
   split at h
   case h_2=>exact (hbad h).elim
   rename_i bx hb
   split at h
   case h_2=>exact (hbad h).elim
   rename_i hC
   obtain ⟨hok,h⟩:=xaY hbad h
   rw [xaz] at h
   obtain ⟨s',h1,h2⟩:=xeG hbad hor h
   simp only [Bool.and_eq_true,Bool.not_eq_true'] at hC
   exact ⟨s',.inr (.inr (.inl ⟨_,⟨n,bx,hb,hC.1,hC.2,hok,rfl⟩,h1⟩)),h2⟩
 · obtain ⟨s',h1,h2⟩:=xeG hbad hor h
   exact ⟨s',.inr (.inl h1),h2⟩
theorem xmL (hbad:¬ good bad) (hor:OrcOk P Inv E) {o:Oper} {s:St} {K:St→T} (h:good (xop P E bad true o s K)):stepA P Inv o s (fun s'=>good (K s')):=by
 have plain:good (xplain P E bad true o s K)→(if isImp o.op=true then istep P o s (fun s'=>good (K s')) else fstep P o s (fun s'=>good (K s'))):=fun h=>by
  have:=xff hbad h
  split at this<;>rename_i hi
  · rw [if_pos hi];exact this.2
  · rw [if_neg hi];exact this
 unfold xop at h
 unfold stepA
 split at h
 · rename_i c a b ho
   split at h
   case h_2=>exact (hbad h).elim
   rename_i t ht
   simp only [ho,ht]
   rw [xaT,xaT,xbm,xbm] at h
   cases t with
   | true=>exact xhj (by simpa only [br] using h)
   | false=>exact xgh (by simpa only [br] using h)
 · rename_i c ho
   split at h
   · rename_i f hf
     simp only [ho,hf]
     split at h
     · exact xiC hbad hor h
     · exact xlY (xfQ hbad hor h)
   · rename_i hne
     have:=plain h
     simp only [ho] at this ⊢
     cases hc:c.callee<;>first|exact (hne _ hc).elim|exact this
 · rename_i h1 h2
   have:=plain h
   cases ho:o.op<;>first|exact (h1 _ _ _ ho).elim|exact (h2 _ ho).elim|exact this|(rw [ho] at this;exact this)
theorem xlO (hbad:¬ good bad) (hor:OrcOk P Inv E) {o:Oper} {s:St} {K:St→T} (h:good (xop P E bad false o s K)):stepF P Inv o s (fun s'=>good (K s')):=by
 have plain:good (xplain P E bad false o s K)→fstep P o s (fun s'=>good (K s')):=fun h=>by
  have:=xff hbad h
  split at this<;>rename_i hi
  · exact absurd this.1 (by simp)
  · exact this
 unfold xop at h
 unfold stepF
 split at h
 · rename_i c a b ho
   split at h
   case h_2=>exact (hbad h).elim
   rename_i t ht
   simp only [ho,ht]
   rw [xaT,xaT,xbm,xbm] at h
   cases t with
   | true=>exact xhj (by simpa only [br] using h)
   | false=>exact xgh (by simpa only [br] using h)
 · rename_i c ho
   split at h
   · rename_i f hf
     simp only [ho,hf]
     split at h
     · exact (hbad h).elim
     · exact xfQ hbad hor h
   · rename_i hne
     have:=plain h
     simp only [ho] at this ⊢
     cases hc:c.callee<;>first|exact (hne _ hc).elim|exact this
 · rename_i h1 h2
   have:=plain h
   cases ho:o.op<;>first|exact (h1 _ _ _ ho).elim|exact (h2 _ ho).elim|exact this|(rw [ho] at this;exact this)
theorem xd1 {H:List Box} {ts0:List AV}:∀ {tl:List Nat} {ts:List AV} {ids:List Nat},stlAll H ts0 tl=(true,ts,ids)→ts.length=ts0.length ∧
  ∀ t,ts.getD t .top=ts0.getD t .top∨(resolve H rfuel (ts0.getD t .top)=some (ts.getD t .top)∧∀ id,id∈reach H rfuel (ts0.getD t .top)→id∈ids)
 | [],ts,ids,h=>by
  simp only [stlAll,Prod.mk.injEq,true_and] at h
  obtain ⟨rfl,rfl⟩:=h
  exact ⟨rfl,fun t=>.inl rfl⟩
 | t::r,ts,ids,h=>by
  unfold stlAll at h
  split at h
  rename_i b ts1 ids1 h1
  split at h
  rename_i b' y ids' h2
  simp only [Prod.mk.injEq,Bool.and_eq_true] at h
  obtain ⟨⟨rfl,rfl⟩,rfl,rfl⟩:=h
  obtain ⟨e1,e2⟩:=xd1 h1
  refine ⟨by rw [List.length_set,e1],fun k=>?_⟩
  by_cases hk:k=t∧t<ts1.length
  · obtain ⟨rfl,hl⟩:=hk
    rw [xbe hl]
    unfold stlV at h2
    split at h2
    · rename_i id ver off len hx
      split at h2
      · rename_i b y0 hr
        simp only [Prod.mk.injEq] at h2
        obtain ⟨rfl,rfl,rfl⟩:=h2
        rw [hx]
        refine .inr ⟨xdJ rfuel _ _ hr,fun i hi=>?_⟩
        rw [xdX rfuel _ _ hr] at hi
        exact List.mem_append_left _ hi
      · simp at h2
    · simp only [Prod.mk.injEq,true_and] at h2
      exact .inl h2.1.symm
  · have:(ts1.set t y).getD k .top=ts1.getD k .top:=by
     by_cases hkt:k=t
     · subst hkt
       rw [List.set_eq_of_length_le (by omega)]
     · exact xbf (fun e=>hkt e.symm)
    rw [this]
    rcases e2 k with h|⟨h,h'⟩
    · exact .inl h
    · exact .inr ⟨h,fun id hid=>List.mem_append_right _ (h' id hid)⟩
theorem xj5 (hbad:¬ good bad) {tl:List Nat} {o:Oper} {s:St} {K:St→T} (h:good (xset P E bad tl o s K)):∃ s',OpA P Inv s o s'∧good (K s'):=by
 unfold xset at h
 split at h
 rename_i b ts1 ids hst
 have ⟨hb,h1⟩:=xaY hbad h
 clear h
 subst hb
 rw [xat,xaz] at h1
 split at h1
 · split at h1
   case h_2=>exact (hbad h1).elim
   rename_i b2 x H2 hx
   have ⟨hb,h⟩:=xaY hbad h1
   clear h1
   subst hb
   rw [xaT,xbm,xaz] at h
   obtain ⟨e1,e2⟩:=xd1 hst
   exact ⟨_,.inr (.inr (.inr ⟨⟨ts1,freeze s.heap ids⟩,x,H2,⟨ids,rfl,e1,e2⟩,xhs hx,rfl⟩)),h⟩
 split at h1
 case h_2=>exact (hbad h1).elim
 rename_i b2 x nb hx
 have ⟨hb,h⟩:=xaY hbad h1
 clear h1
 subst hb
 rw [xaT,xbm,xaz] at h
 obtain ⟨e1,e2⟩:=xd1 hst
 exact ⟨_,.inr (.inl (.inr (.inr ⟨⟨ts1,freeze s.heap ids⟩,x,nb,⟨ids,rfl,e1,e2⟩,xho hx,rfl⟩))),h⟩
theorem xgS (hbad:¬ good bad) {o:Oper} {s:St} {K:St→T} (h:good (xfrz bad o s K)):∃ s',OpF P Inv s o s'∧good (K s'):=by
 unfold xfrz at h
 split at h
 case h_2=>exact (hbad h).elim
 rename_i b x hx
 obtain ⟨hb,h'⟩:=xaY hbad h
 subst hb
 rw [xaT,xbm] at h'
 exact ⟨_,.inl ⟨x,none,.inr (xjC hx),rfl⟩,by simpa using h'⟩
theorem xlh (hbad:¬ good bad) (hor:OrcOk P Inv E) {o:Oper} {s:St} {K:St→T} (h:good (xopS P E bad true o s K)):∃ s',OpA P Inv s o s'∧good (K s'):=by
 unfold xopS at h
 split at h
 · split at h
   · obtain ⟨s',h1,h2⟩:=xgS (P:=P) (Inv:=Inv) hbad h
     exact ⟨s',.inl h1,h2⟩
   · exact xi1 (xmL hbad hor h)
 · exact xj5 hbad h
theorem xmF (hbad:¬ good bad) (hor:OrcOk P Inv E) {o:Oper} {s:St} {K:St→T} (h:good (xopS P E bad false o s K)):∃ s',OpF P Inv s o s'∧good (K s'):=by
 unfold xopS at h
 split at h
 · split at h
   · exact xgS hbad h
   · exact xfP (xlO hbad hor h)
 · exact (hbad h).elim
theorem xmE (hbad:¬ good bad) (hor:OrcOk P Inv E) {o:Oper} {s:St} {K:St→T} (h:good (xopE P E bad o s K)):∃ s',OpF P Inv s o s'∧good (K s'):=by
 unfold xopE at h
 split at h
 · rename_i b x nb hx
   have ⟨hb,h⟩:=xaY hbad h
   subst hb
   rw [xaT,xbm,xaz] at h
   exact ⟨_,.inl ⟨x,nb,.inr (xjD hx),rfl⟩,h⟩
 · exact xfP (xlO hbad hor h)
theorem xcf (hbad:¬ good bad) {imp:Option Bool} {Step:St→Oper→St→Prop} (hstep:∀ o s (K:St→T),good (xopM P E bad imp o s K)→∃ s',Step s o s'∧good (K s')) {ops:Array Oper} :
  ∀ (l:List Oper) (s:St) (K:St→T),good (xOps P E bad imp ops l s K)→∃ s',Path Step ops l s s'∧good (K s')
 | [],s,K,h=>⟨s,.nil s,h⟩
 | o::rest,s,K,h=>by
  have run:∀ s:St,awanted ops s.tmps o=some true→good (xopM P E bad imp o s fun s'=>xOps P E bad imp ops rest s' K)→∃ s',Path Step ops (o::rest) s s'∧good (K s'):=fun s hg h=>by
   obtain ⟨s1,h1,h2⟩:=hstep _ _ _ h
   obtain ⟨s2,h3,h4⟩:=xcf hbad hstep rest s1 K h2
   exact ⟨s2,.run hg h1 h3,h4⟩
  have skip:∀ s:St,awanted ops s.tmps o=some false→good (putK s.tmps o.dst (.tuple []) fun ts=>xOps P E bad imp ops rest ⟨ts,s.heap⟩ K)→∃ s',Path Step ops (o::rest) s s'∧good (K s'):=fun s hg h=>by
   rw [xbm] at h
   obtain ⟨s2,h3,h4⟩:=xcf hbad hstep rest _ K h
   exact ⟨s2,.skip hg h3,h4⟩
  unfold xOps xguard at h
  split at h
  · rename_i hg
    exact run s (by simp [awanted,hg]) h
  · rename_i j want hg
    split at h
    · rename_i hd
      refine skip s ?_ h
      have:(ops[j]?).bind (·.dst)=none:=hd
      simp [awanted,hg,ayield,this]
    · rename_i d hd
      have hd':(ops[j]?).bind (·.dst)=some d:=hd
      split at h
      · rename_i ht
        refine skip s ?_ h
        simp [awanted,hg,ayield,hd',ht]
      · rename_i t ht
        have haw:awanted ops s.tmps o=some (t==want):=by simp [awanted,hg,ayield,hd',ht]
        cases t with
        | true =>
         simp only [br] at h
         rw [xde,xeq ht] at h
         cases want with
         | true=>exact run s haw h
         | false=>exact skip s haw h
        | false =>
         simp only [br] at h
         rw [xde,xeq ht] at h
         cases want with
         | true=>exact skip s haw h
         | false=>exact run s haw h
      · rename_i vs ht
        refine skip s ?_ h
        simp [awanted,hg,ayield,hd',ht]
      · exact (hbad h).elim
theorem xbZ (hbad:¬ good bad) (hor:OrcOk P Inv E) {ops:Array Oper} {m:Nat} :
  ∀ (l:List Oper) (k:Nat) (s:St) (K:St→T),good (xTail P E bad ops m k l s K)→∃ s',TPath P Inv ops m k l s s'∧good (K s')
 | [],k,s,K,h=>⟨s,.nil k s,h⟩
 | o::rest,k,s,K,h=>by
  have hstep:∀ (s:St) (K:St→T),good (xopS P E bad true o s K)→∃ s',OpA P Inv s o s'∧good (K s'):=fun s K h=>xlh hbad hor h
  unfold xTail at h
  split at h
  · rename_i hml
    have run:∀ s:St,awanted ops s.tmps o=some true→good (xopS P E bad true o s fun s'=>xTail P E bad ops m (k+1) rest s' K)→∃ s',TPath P Inv ops m k (o::rest) s s'∧good (K s'):=fun s hg h=>by
     obtain ⟨s1,h1,h2⟩:=hstep _ _ h
     obtain ⟨s2,h3,h4⟩:=xbZ hbad hor rest (k+1) s1 K h2
     exact ⟨s2,.run [] hml.symm hg h1 h3,h4⟩
    have skip:∀ s:St,awanted ops s.tmps o=some false→good (putK s.tmps o.dst (.tuple []) fun ts=>xTail P E bad ops m (k+1) rest ⟨ts,s.heap⟩ K)→∃ s',TPath P Inv ops m k (o::rest) s s'∧good (K s'):=fun s hg h=>by
     rw [xbm] at h
     obtain ⟨s2,h3,h4⟩:=xbZ hbad hor rest (k+1) _ K h
     exact ⟨s2,.skip [] hml.symm hg h3,h4⟩
    unfold xguard at h
    split at h
    · rename_i hg
      exact run s (by simp [awanted,hg]) h
    · rename_i j want hg
      split at h
      · rename_i hd
        refine skip s ?_ h
        have:(ops[j]?).bind (·.dst)=none:=hd
        simp [awanted,hg,ayield,this]
      · rename_i d hd
        have hd':(ops[j]?).bind (·.dst)=some d:=hd
        split at h
        · rename_i ht
          refine skip s ?_ h
          simp [awanted,hg,ayield,hd',ht]
        · rename_i t ht
          have haw:awanted ops s.tmps o=some (t==want):=by simp [awanted,hg,ayield,hd',ht]
          cases t with
          | true =>
           simp only [br] at h
           rw [xde,xeq ht] at h
           cases want with
           | true=>exact run s haw h
           | false=>exact skip s haw h
          | false =>
           simp only [br] at h
           rw [xde,xeq ht] at h
           cases want with
           | true=>exact skip s haw h
           | false=>exact run s haw h
        · rename_i vs ht
          refine skip s ?_ h
          simp [awanted,hg,ayield,hd',ht]
        · exact (hbad h).elim
  · rename_i d ds hml
    split at h
    case h_2=>exact (hbad h).elim
    rename_i hg
    rw [xat] at h
    obtain ⟨s1,h1,h2⟩:=hstep _ _ h
    rw [xat] at h2
    obtain ⟨s2,h3,h4⟩:=xbZ hbad hor rest (k+1) _ K h2
    exact ⟨s2,.run (d::ds) hml.symm (by simp [awanted,hg]) h1 h3,h4⟩
theorem xj4 (hmx:P.follows .mixedOrders=true) (hIo:InvOk Inv) (hbad:¬ good bad) (hor:OrcOk P Inv E) {id:Nat} {ops:Array Oper} {draw:Bool} {s:St} {K:Exit→St→T} (h:good (xReg P E bad ops draw s (K .normal))):Does P Inv (.region id ops draw) (fun e s'=>good (K e s')) s:=by
 have hA:∀ o s (K:St→T),good (xopM P E bad (some true) o s K)→∃ s',OpA P Inv s o s'∧good (K s'):=fun o s K h=>xlh hbad hor h
 have hF:∀ o s (K:St→T),good (xopM P E bad (some false) o s K)→∃ s',OpF P Inv s o s'∧good (K s'):=fun o s K h=>xmF hbad hor h
 have hE:∀ o s (K:St→T),good (xopM P E bad none o s K)→∃ s',OpF P Inv s o s'∧good (K s'):=fun o s K h=>xmE hbad hor h
 unfold xReg at h
 cases draw with
 | false =>
  simp only [Bool.false_eq_true,if_false] at h
  obtain ⟨s',h1,h2⟩:=xcf hbad hA _ _ _ h
  exact xjx hIo h1 h2
 | true =>
  simp only [if_true] at h
  split at h
  · rename_i hc
    simp only [Bool.and_eq_true,decide_eq_true_eq] at hc
    obtain ⟨s1,h1,h⟩:=xcf hbad hF _ _ _ h
    obtain ⟨s2,h2,h⟩:=xbZ hbad hor _ _ _ _ h
    exact xf9 hmx hIo _ hc.2 hc.1 h1 h2 xgn h
  · split at h
    · rename_i hc
      simp only [Bool.and_eq_true,decide_eq_true_eq] at hc
      obtain ⟨s1,h1,h⟩:=xcf hbad hE _ _ _ h
      obtain ⟨s2,h2,h⟩:=xbZ hbad hor _ _ _ _ h
      exact xf9 hmx hIo _ hc.2 hc.1 h1 h2 xgn h
    · split at h
      case isFalse=>exact (hbad h).elim
      rename_i hc
      simp only [Bool.and_eq_true,decide_eq_true_eq] at hc
      obtain ⟨s1,h1,h⟩:=xcf hbad hF _ _ _ h
      split at h
      case h_2=>exact (hbad h).elim
      rename_i hpt
      obtain ⟨s2,h2,h⟩:=xbZ hbad hor _ _ _ _ h
      exact xf9 hmx hIo _ hc.2 hc.1 h1 h2 (xiW hpt) h
theorem xi4 (hbad:¬ good bad) {c:Code} {R:St→(Exit→St→T)→T} (hR:∀ s (K:Exit→St→T),good (R s K)→Does P Inv c (fun e s'=>good (K e s')) s) {n:Nat} {s:St} {K:Exit→St→T} (h:good (xloop bad R n s K)):Does P Inv (.loop c) (fun e s'=>good (K e s')) s :=
 xlb (fun n s=>good (xloop bad R n s K)) (Weak.refl _ _) h fun n s hs=>by
  cases n with
  | zero=>exact (hbad hs).elim
  | succ n =>
   refine xbJ (hR s _ hs) fun e s' h=>?_
   cases e with
   | normal=>exact ⟨n,s',Nat.lt_succ_self n,Weak.refl _ _,h⟩
   | _=>exact h
theorem xfe (hpin:Inv.pin=E.pin) (hbad:¬ good bad) {lp:Lp} {s:St} {K:Exit→St→T} {F:T} (h:good (xpiece E bad lp s K F)) :
  good F∨∃ vals H0 r,lp.run vals H0=some (true,r)∧Weak Inv.pin s ⟨mkTs E.nt (lp.live.zip vals),H0⟩∧good (K r.eval.1 ⟨mkTs E.nt (lp.liveO.zip r.eval.2.1),r.eval.2.2⟩):=by
 unfold xpiece at h
 split at h
 case h_2=>exact .inl h
 rename_i vals H0 hno
 rw [xat,xaz] at h
 split at h
 case h_2=>exact .inl h
 rename_i b r hlo
 have ⟨h0,h1⟩:=xaY hbad h
 clear h
 have ⟨hb,h⟩:=xaY hbad h1
 clear h1
 subst hb
 have h:=LR.run_good h
 rw [xat,xaz] at h
 have hlen:=Nat.eq_of_beq_eq_true h0
 have hw:=xgA hno
 rw [←hpin,hlen] at hw
 exact .inr ⟨vals,H0,r,hlo,hw,h⟩
theorem xiD (hpin:Inv.pin=E.pin) (hbad:¬ good bad) {d:Code} {lp:Lp} (hok:PieceOk P Inv E.nt d lp) {s:St} {K:Exit→St→T} (h:good (xpiece E bad lp s K bad)):Does P Inv d (fun e s'=>good (K e s')) s:=by
 rcases xfe hpin hbad h with h|⟨vals,H0,r,h1,h2,h3⟩
 · exact (hbad h).elim
 · exact xkO h2 (xbJ (hok _ _ _ h1) fun e1 s1 ⟨g1,g2⟩=>by rw [g1,g2];exact h3)
theorem xfR (hpin:Inv.pin=E.pin) (hbad:¬ good bad) {c:Code} {lp:Lp} (hok:LoopOk P Inv E.nt c lp) {R:St→(Exit→St→T)→T} (hR:∀ s (K:Exit→St→T),good (R s K)→Does P Inv c (fun e s'=>good (K e s')) s) :
  ∀ (n:Nat) (s:St) (K:Exit→St→T),good (xpeel E bad lp R n s K)→DoesL P Inv c (fun e s'=>good (K e s')) s
 | 0,s,K,h=>by
  rcases xfe hpin hbad h with h|⟨vals,H0,r,h1,h2,h3⟩
  · exact (hbad h).elim
  · exact xgk h2 (xhO (hok _ _ _ h1) fun e1 s1 ⟨g1,g2⟩=>by rw [g1,g2];exact h3)
 | n+1,s,K,h=>by
  rcases xfe hpin hbad h with h|⟨vals,H0,r,h1,h2,h3⟩
  · refine xjZ (xbJ (hR s _ h) fun e s' h=>?_)
    cases e with
    | normal=>exact xfR hpin hbad hok hR n s' K h
    | _=>exact h
  · exact xgk h2 (xhO (hok _ _ _ h1) fun e1 s1 ⟨g1,g2⟩=>by rw [g1,g2];exact h3)
theorem xbW (hmx:P.follows .mixedOrders=true) (hIo:InvOk Inv) (hpin:Inv.pin=E.pin) (hbad:¬ good bad) (hor:OrcOk P Inv E):∀ (c:Code) (s:St) (K:Exit→St→T),LoOk P Inv E c→good (X P E bad c s K)→Does P Inv c (fun e s'=>good (K e s')) s
 | .skip,s,K,_,h=>xlH h
 | .region id ops draw,s,K,_,h=>xj4 hmx hIo hbad hor h
 | .seq a b,s,K,hl,h=>xmj (xbJ (xbW hmx hIo hpin hbad hor a s _ (hl.sub (fun l hm=>by simp [loopsOf,hm]) (fun l hm=>by simp [condsOf,hm])) h) fun e s' hq=>by
  cases e with
  | normal=>exact xbW hmx hIo hpin hbad hor b s' K (hl.sub (fun l hm=>by simp [loopsOf,hm]) (fun l hm=>by simp [condsOf,hm])) hq
  | _=>exact hq)
 | .cond c a b,s,K,hl,h=>by
  unfold X at h
  split at h
  · rename_i lp hlp
    exact xiD hpin hbad (hl.2 (.cond c a b) (by simp [condsOf]) lp hlp) h
  split at h
  case h_2=>exact (hbad h).elim
  rename_i t ht
  refine xlF ht (fun e=>?_) (fun e=>?_)
  · subst e;exact xbW hmx hIo hpin hbad hor a s K (hl.sub (fun l hm=>by simp [loopsOf,hm]) (fun l hm=>by simp [condsOf,hm])) h
  · subst e;exact xbW hmx hIo hpin hbad hor b s K (hl.sub (fun l hm=>by simp [loopsOf,hm]) (fun l hm=>by simp [condsOf,hm])) h
 | .block id c,s,K,hl,h=>xla (xbJ (xbW hmx hIo hpin hbad hor c s _ (hl.sub (fun l hm=>by simpa [loopsOf] using hm) (fun l hm=>by simpa [condsOf] using hm)) h) fun e s' hq=>by
  cases e with
  | exit id' =>
   simp only [blockQ]
   split
   · rename_i hid;simp only [hid,if_true] at hq;exact hq
   · rename_i hid;simp only [hid,if_false] at hq;exact hq
  | _=>exact hq)
 | .loop c,s,K,hl,h=>by
  unfold X at h
  split at h
  · rename_i lp hlp
    exact xjl (xfR hpin hbad (hl.1 c (by simp [loopsOf]) lp hlp) (fun s K h=>xbW hmx hIo hpin hbad hor c s K (hl.sub (fun l hm=>by simp [loopsOf,hm]) (fun l hm=>by simp [condsOf,hm])) h) _ _ _ h)
  · exact xi4 hbad (fun s K h=>xbW hmx hIo hpin hbad hor c s K (hl.sub (fun l hm=>by simp [loopsOf,hm]) (fun l hm=>by simp [condsOf,hm])) h) h
 | .exit id,s,K,_,h=>xlG h
 | .ret,s,K,_,h=>xmi h
 | .rangeFunc ..,s,K,_,h=>(hbad (by simpa [X] using h)).elim
 | .scope _,s,K,_,h=>(hbad (by simpa [X] using h)).elim
 | .label _,s,K,_,h=>(hbad (by simpa [X] using h)).elim
 | .goto _,s,K,_,h=>(hbad (by simpa [X] using h)).elim
 | .refuse _,s,K,_,h=>(hbad (by simpa [X] using h)).elim
end sound
def resValC (P:Program) (ls:TypeId→Bool) (s:St):ResultVar→Option (Bool×AV)
 | .tmp t=>some (true,s.tmps.getD t .top)
 | .cell a t=>match tinfo P t with
  | some ti=>loadAtC P ls t s.heap ti (s.tmps.getD a .top)
  | none=>none
theorem xfb {P:Program} {ls:TypeId→Bool} {s:St} {r:ResultVar} {x:AV} (hx:resValC P ls s r=some (true,x)):resVal P s r=some x:=by
 cases r with
 | tmp t=>simpa [resValC,resVal] using hx
 | cell a t =>
  simp only [resValC] at hx
  simp only [resVal]
  split at hx
  case h_2=>simp at hx
  rename_i ti hti
  simp only [hti]
  exact xex hx
def resAllC (P:Program) (ls:TypeId→Bool) (s:St):List ResultVar→Option (Bool×List AV)
 | []=>some (true,[])
 | r::rs=>match resValC P ls s r with
  | some (b,x)=>match resC s.heap rfuel x with
   | some (b',y)=>match resAllC P ls s rs with
    | some (b'',ys)=>some (b&&(b'&&b''),y::ys)
    | none=>none
   | none=>none
  | none=>none
theorem xfa {P:Program} {ls:TypeId→Bool} {s:St}:∀ {rs:List ResultVar} {ys:List AV},resAllC P ls s rs=some (true,ys)→resAll P s rs=some ys
 | [],ys,h=>by simp only [resAllC,Option.some.injEq,Prod.mk.injEq,true_and] at h;subst h;rfl
 | r::rs,ys,h=>by
  unfold resAllC at h
  split at h
  case h_2=>simp at h
  rename_i b x hx
  split at h
  case h_2=>simp at h
  rename_i b' y hy
  split at h
  case h_2=>simp at h
  rename_i b'' zs hz
  simp only [Option.some.injEq,Prod.mk.injEq,Bool.and_eq_true] at h
  obtain ⟨⟨rfl,rfl,rfl⟩,rfl⟩:=h
  unfold resAll
  simp only [xfb hx,xfa hz,xdJ _ _ _ hy]
def finK (P:Program) (ls:TypeId→Bool) (rs:List ResultVar) (s:St):Option AV :=
 match resAllC P ls s rs with
 | some (b,xs)=>br b (forces xs fun ys=>some (oneOrTuple ys)) none
 | none=>none
def endK (P:Program) (ls:TypeId→Bool) (rs:List ResultVar):Exit→St→Option AV
 | .ret,s=>finK P ls rs s
 | .normal,s=>finK P ls rs s
 | _,_=>none
def XF (P:Program) (E:Env) (fn:Func) (c:Code) (args:List AV):Option AV :=
 forces (args++List.replicate (fn.ntmps - args.length) (.tuple [])) fun ts=>X P E none c ⟨ts,[]⟩ (endK P E.ls fn.results.toList)
theorem xgp {P:Program} {Inv:IV} {E:Env} (hmx:P.follows .mixedOrders=true) (hIo:InvOk Inv) (hpin:Inv.pin=E.pin) (hor:OrcOk P Inv E) {f:FuncId} {fn:Func} {c:Code} {args:List AV} {r:AV} (hf:P.funcs[f]?=some fn) (hb:fn.body=some c) (hname:(fn.name == "runtime.NumGoroutine")=false)
  (hl:LoOk P Inv E c) (h:XF P E fn c args=some r):Good P Inv f args r:=by
 refine xl0 hIo hf hb hname ?_
 unfold XF at h
 rw [xat] at h
 refine xbJ (xbW (good:=fun t=>t=some r) hmx hIo hpin (by simp) hor c _ _ hl h) fun e s hq=>?_
 have fin:∀ s,finK P E.ls fn.results.toList s=some r→resultOf P fn.results.toList s=some r:=fun s h=>by
  unfold finK at h
  split at h
  case h_2=>simp at h
  rename_i b xs hx
  obtain ⟨rfl,h⟩:=xaY (good:=fun t=>t=some r) (by simp) h
  rw [xat] at h
  unfold resultOf
  rw [xfa hx]
  exact h
 cases e with
 | ret=>exact ⟨.inl rfl,fin s hq⟩
 | normal=>exact ⟨.inr rfl,fin s hq⟩
 | _=>simp [endK] at hq
def resAllM (P:Program) (s:St):List ResultVar→Option (List AV)
 | []=>some []
 | r::rs=>match resVal P s r with
  | some x=>match resAllM P s rs with
   | some xs=>some (x::xs)
   | none=>none
  | none=>none
theorem xfJ {P:Program} {w0 w:World} {A0:Cx} {A:Nat→Prop} {M:Id→Option MB} {s:St} {a:Act} (hs:SR w0 A0 w A M s a):∀ {rs:List ResultVar} {xs:List AV},resAllM P s rs=some xs →
  ∃ vs,(rs.mapM (resF a.tmps)).run P w=.ok vs w∧RC w A M vs xs
 | [],xs,h=>by
  simp only [resAllM,Option.some.injEq] at h;subst h
  exact ⟨[],by simp,rfl,by simp⟩
 | r::rs,xs,h=>by
  unfold resAllM at h
  split at h
  case h_2=>simp at h
  rename_i x hx
  split at h
  case h_2=>simp at h
  rename_i ys hys
  simp only [Option.some.injEq] at h;subst h
  obtain ⟨v,hv,hrv⟩:=xgN hs hx
  obtain ⟨vs,hvs,hrc⟩:=xfJ hs hys
  refine ⟨v::vs,?_,by simp [hrc.1],fun i hi=>?_⟩
  · rw [List.mapM_cons]
    simp only [Sem.run_bind,hv,hvs,Result.andThen_ok,Sem.run_pure]
  · cases i with
    | zero=>simpa using hrv
    | succ i=>have:=hrc.2 i (by simp at hi;omega);simpa using this
theorem xiw {P:Program} {w0 w:World} {A0:Cx} {A:Nat→Prop} {M:Id→Option MB} {s:St} {a:Act} (hs:SR w0 A0 w A M s a) {fn:Func} {xs:List AV} (h:resAllM P s fn.results.toList=some xs) :
  ∃ v,(results fn a.tmps).run P w=.ok v w∧Rel w A M v (oneOrTuple xs):=by
 obtain ⟨vs,hvs,hrc⟩:=xfJ (P:=P) hs h
 refine ⟨if h:vs.toArray.size=1 then vs.toArray[0] else .tuple vs.toArray,?_,?_⟩
 · rw [xgO,Array.mapM_eq_mapM_toList]
   simp only [Sem.run_bind,Sem.run_map,hvs,Result.andThen_ok,Sem.run_pure]
 · have hl:=hrc.1
   have hr:=hrc.2
   match vs,xs,hl,hr with
   | [v],[x],_,hr=>simpa [oneOrTuple] using hr 0 (by simp)
   | [],[],_,_=>simpa [oneOrTuple] using Rel.tuple (w:=w) (A:=A) (M:=M) #[] [] rfl (by simp)
   | v1::v2::vs,x1::x2::xs,hl,hr =>
    have hne:¬ (v1::v2::vs).toArray.size=1:=by simp
    rw [dif_neg hne]
    simp only [oneOrTuple]
    refine .tuple _ _ (by simpa using hl) fun i hi=>?_
    rw [xbi]
    exact hr i hi
theorem xlt {P:Program} {Inv:IV} (hIo:InvOk Inv) {f:FuncId} {fn:Func} {c:Code} {args:List AV} {r:AV} {H H':List Box} (hf:P.funcs[f]?=some fn) (hb:fn.body=some c) (hname:(fn.name == "runtime.NumGoroutine")=false) (hpin:H.length=Inv.pin)
  (h:Does P Inv c (fun e s=>(e=.ret∨e=.normal)∧∃ xs ids,resAllM P s fn.results.toList=some xs∧nodupB ids=true∧pinsOk Inv.pin 0 ids=true∧normH Inv.pin (normF Inv.pin ids s.heap) s.heap 0 ids=some H'∧ren (normF Inv.pin ids s.heap) (oneOrTuple xs)=r) ⟨args++List.replicate (fn.ntmps - args.length) (.tuple []),H⟩):GoodM P Inv f args H r H':=by
 refine ⟨⟨fn,hf,by rw [hb];rfl,hname⟩,fun w0 w A M vs hI hbase hR hrc=>?_⟩
 refine calls_of_wp hf hb ?_
 refine h w0 ⟨A,w,A,M,H.length⟩ w A M _ _ hI (by simp only [];omega) ⟨hbase,fun _ _=>Iff.rfl,?_,fun t ht=>?_,hR,rfl,Ev.refl (C:=⟨A,w,A,M,H.length⟩)⟩ ?_
 · simp [hrc.1]
 · simp only [List.length_append,List.length_replicate] at ht
   have hl:=hrc.1
   by_cases hta:t<args.length
   · have e1:(vs.toArray++Array.replicate (fn.ntmps - vs.toArray.size) undef).getD t undef=vs.getD t undef:=by
      have:t<vs.length:=by omega
      simp [List.getD_eq_getElem?_getD,Array.getElem?_append,this]
     have e2:(args++List.replicate (fn.ntmps - args.length) (AV.tuple [])).getD t .top=args.getD t .top:=by
      simp [List.getD_eq_getElem?_getD,List.getElem?_append,hta]
     rw [e1,e2];exact hrc.2 t hta
   · have h1:¬ t<vs.length:=by omega
     have e1:(vs.toArray++Array.replicate (fn.ntmps - vs.toArray.size) undef).getD t undef=undef:=by
      have h2:t - vs.length<fn.ntmps - vs.length:=by omega
      simp [Array.getElem?_append,h1,h2]
     have e2:(args++List.replicate (fn.ntmps - args.length) (AV.tuple [])).getD t .top=.tuple []:=by
      have h2:t - args.length<fn.ntmps - args.length:=by omega
      simp [List.getD_eq_getElem?_getD,List.getElem?_append,hta,h2]
     rw [e1,e2]
     exact .tuple #[] [] rfl (by simp)
 · rintro e s' a' w' ⟨he,xs,ids,hx,hnd,hpo,hnh,rfl⟩ ⟨A',M',hs'⟩
   obtain ⟨v,hv,hrel⟩:=xiw (P:=P) hs' hx
   obtain ⟨M2,g1,g2,g3,g4⟩:=hs'.heap.norm hnd hpo hnh
   have:bodyPost P fn (fun e w'=>∃ v A' M',e=.returned v∧Below w0.heap.size w0 w'∧(∀ b,b<w0.heap.size→(A' b↔A b))∧Ev ⟨A,w,A,M,H.length⟩ w' A' M'∧HR w' A' M' w0.heap.size H'∧Rel w' A' M' v (ren (normF Inv.pin ids s'.heap) (oneOrTuple xs))) .ret a' w' :=
    ⟨hs'.defers,v,hv,v,A',M2,rfl,hs'.base,hs'.outer,hs'.ev.norm (by simp only [];omega) g3 g4,g1,hrel.ren g2⟩
   rcases he with rfl|rfl<;>exact this
def resAllMC (P:Program) (ls:TypeId→Bool) (s:St):List ResultVar→Option (Bool×List AV)
 | []=>some (true,[])
 | r::rs=>match resValC P ls s r with
  | some (b,x)=>match resAllMC P ls s rs with
   | some (b',xs)=>some (b&&b',x::xs)
   | none=>none
  | none=>none
theorem xeC {P:Program} {ls:TypeId→Bool} {s:St}:∀ {rs:List ResultVar} {ys:List AV},resAllMC P ls s rs=some (true,ys)→resAllM P s rs=some ys
 | [],ys,h=>by simp only [resAllMC,Option.some.injEq,Prod.mk.injEq,true_and] at h;subst h;rfl
 | r::rs,ys,h=>by
  unfold resAllMC at h
  split at h
  case h_2=>simp at h
  rename_i b x hx
  split at h
  case h_2=>simp at h
  rename_i b' zs hz
  simp only [Option.some.injEq,Prod.mk.injEq,Bool.and_eq_true] at h
  obtain ⟨⟨rfl,rfl⟩,rfl⟩:=h
  unfold resAllM
  simp only [xfb hx,xeC hz]
def finM (P:Program) (pin:Nat) (ls:TypeId→Bool) (rs:List ResultVar) (s:St):Option (AV×List Box) :=
 match resAllMC P ls s rs with
 | some (b,xs)=>br b (match nodupB (gather s.heap 1000 (List.range pin++refsOf.refsL xs) [])&&pinsOk pin 0 (gather s.heap 1000 (List.range pin++refsOf.refsL xs) []) with
  | true=>match normH pin (normF pin (gather s.heap 1000 (List.range pin++refsOf.refsL xs) []) s.heap) s.heap 0 (gather s.heap 1000 (List.range pin++refsOf.refsL xs) []) with
   | some H'=>force (ren (normF pin (gather s.heap 1000 (List.range pin++refsOf.refsL xs) []) s.heap) (oneOrTuple xs)) fun r=>forceH H' fun H'=>some (r,H')
   | none=>none
  | false=>none) none
 | none=>none
def endM (P:Program) (pin:Nat) (ls:TypeId→Bool) (rs:List ResultVar):Exit→St→Option (AV×List Box)
 | .ret,s=>finM P pin ls rs s
 | .normal,s=>finM P pin ls rs s
 | _,_=>none
def XFM (P:Program) (E:Env) (fn:Func) (c:Code) (args:List AV) (H:List Box):Option (AV×List Box) :=
 forces (args++List.replicate (fn.ntmps - args.length) (.tuple [])) fun ts=>X P E none c ⟨ts,H⟩ (endM P E.pin E.ls fn.results.toList)
theorem xeY {P:Program} {Inv:IV} {E:Env} (hmx:P.follows .mixedOrders=true) (hIo:InvOk Inv) (hpin:Inv.pin=E.pin) (hor:OrcOk P Inv E) {f:FuncId} {fn:Func} {c:Code} {args:List AV} {r:AV} {H H':List Box} (hH:H.length=E.pin) (hf:P.funcs[f]?=some fn) (hb:fn.body=some c) (hname:(fn.name == "runtime.NumGoroutine")=false)
  (hl:LoOk P Inv E c) (h:XFM P E fn c args H=some (r,H')):GoodM P Inv f args H r H':=by
 refine xlt hIo hf hb hname (by rw [hH,hpin]) ?_
 unfold XFM at h
 rw [xat] at h
 refine xbJ (xbW (good:=fun t=>t=some (r,H')) hmx hIo hpin (by simp) hor c _ _ hl h) fun e s hq=>?_
 have fin:∀ s,finM P E.pin E.ls fn.results.toList s=some (r,H')→∃ xs ids,resAllM P s fn.results.toList=some xs∧nodupB ids=true∧pinsOk Inv.pin 0 ids=true∧normH Inv.pin (normF Inv.pin ids s.heap) s.heap 0 ids=some H'∧ren (normF Inv.pin ids s.heap) (oneOrTuple xs)=r:=fun s h=>by
  unfold finM at h
  split at h
  case h_2=>simp at h
  rename_i b xs hx
  have ⟨hb1,h1⟩:=xaY (good:=fun t=>t=some (r,H')) (by simp) h
  clear h
  have h:=h1
  clear h1
  subst hb1
  generalize hids:gather s.heap 1000 (List.range E.pin++refsOf.refsL xs) []=ids at h
  split at h
  case h_2=>simp at h
  rename_i hc
  simp only [Bool.and_eq_true] at hc
  split at h
  case h_2=>simp at h
  rename_i H1 hH1
  rw [xaT,xaz] at h
  simp only [Option.some.injEq,Prod.mk.injEq] at h
  obtain ⟨rfl,rfl⟩:=h
  rw [hpin]
  exact ⟨xs,ids,xeC hx,hc.1,hc.2,hH1,rfl⟩
 cases e with
 | ret=>exact ⟨.inl rfl,fin s hq⟩
 | normal=>exact ⟨.inr rfl,fin s hq⟩
 | _=>simp [endM] at hq
def iterN {σ ρ:Type} (step:σ→Option (σ⊕ρ)):Nat→σ→Option ρ
 | 0,_=>none
 | n+1,s=>match step s with
  | some (.inl s')=>iterN step n s'
  | some (.inr r)=>some r
  | none=>none
open Classical in
noncomputable def Iter {σ ρ:Type} (step:σ→Option (σ⊕ρ)) (s:σ):Option ρ :=
 if h:∃ r n,iterN step n s=some r then some h.choose else none
theorem xei {σ ρ:Type} {step:σ→Option (σ⊕ρ)}:∀ {n m:Nat} {s:σ} {r:ρ},iterN step n s=some r→n≤m→iterN step m s=some r
 | 0,_,_,_,h,_=>by simp [iterN] at h
 | n+1,0,_,_,_,hm=>by omega
 | n+1,m+1,s,r,h,hm=>by
  simp only [iterN] at h ⊢
  cases hs:step s with
  | none=>rw [hs] at h;simp at h
  | some x =>
   rw [hs] at h
   cases x with
   | inl s'=>exact xei (n:=n) h (by omega)
   | inr r'=>exact h
theorem xdq {σ ρ:Type} {step:σ→Option (σ⊕ρ)} {s:σ} {r:ρ}:Iter step s=some r↔∃ n,iterN step n s=some r:=by
 unfold Iter
 constructor
 · intro h
   split at h
   · rename_i hex
     obtain ⟨n,hn⟩:=hex.choose_spec
     simp only [Option.some.injEq] at h
     exact ⟨n,by rw [hn,h]⟩
   · simp at h
 · rintro ⟨n,hn⟩
   have hex:∃ r n,iterN step n s=some r:=⟨r,n,hn⟩
   rw [dif_pos hex]
   obtain ⟨n',hn'⟩:=hex.choose_spec
   have h1:=xei hn (Nat.le_max_left n n')
   have h2:=xei hn' (Nat.le_max_right n n')
   rw [h1] at h2
   exact h2.symm
theorem xht {σ ρ:Type} {step:σ→Option (σ⊕ρ)} {s s':σ} (h:step s=some (.inl s')):Iter step s=Iter step s':=by
 apply Option.ext
 intro r
 rw [xdq,xdq]
 constructor
 · rintro ⟨n,hn⟩
   cases n with
   | zero=>simp [iterN] at hn
   | succ n=>simp only [iterN,h] at hn;exact ⟨n,hn⟩
 · rintro ⟨n,hn⟩
   exact ⟨n+1,by simp only [iterN,h];exact hn⟩
theorem xdp {σ ρ:Type} {step:σ→Option (σ⊕ρ)} {s:σ} {r:ρ} (h:step s=some (.inr r)):Iter step s=some r :=
 xdq.2 ⟨1,by simp only [iterN,h]⟩
theorem xk9 {P:Program} {Inv:IV} {c:Code} {s:St} {Q:Exit→St→Prop} (h:DoesL P Inv c (fun e s1=>∃ s',Weak Inv.pin s1 s'∧Q e s') s):DoesL P Inv c Q s :=
 fun w0 A0 w A M a Qc hI hp hs hQ=>h w0 A0 w A M a Qc hI hp hs fun e s1 a' w' ⟨s',hw,hq⟩ ⟨A',M',hs'⟩=>by
  obtain ⟨A'',M'',hs''⟩:=hw w0 A0 w' A' M' a' hp hs'
  exact hQ e s' a' w' hq ⟨A'',M'',hs''⟩
def XR (P:Program) (E:Env) (live liveO:List Nat) (conv:List (Nat×Nat×TypeId)) (c:Code) (vals:List AV) (H:List Box):Option (Exit×List AV×List Box) :=
 forces (mkTs E.nt (live.zip vals)) fun ts=>X P E none c ⟨ts,H⟩ fun e s'=>match e with
  | .normal=>match normS E.pin conv live s' with
   | some (vs,H')=>forces vs fun vs=>forceH H' fun H'=>br (Nat.beq s'.tmps.length E.nt) (some (.normal,vs,H')) none
   | none=>none
  | e=>match normS E.pin [] liveO s' with
   | some (vs,H')=>forces vs fun vs=>forceH H' fun H'=>br (Nat.beq s'.tmps.length E.nt) (some (e,vs,H')) none
   | none=>none
def encR {σ ρ:Type} (L:σ→List AV×List Box) (out:ρ→LR):σ⊕ρ→Exit×List AV×List Box
 | .inl s=>(.normal,(L s).1,(L s).2)
 | .inr r=>(out r).eval
theorem xdb {σ ρ:Type} {P:Program} {Inv:IV} {E:Env} (hmx:P.follows .mixedOrders=true) (hIo:InvOk Inv) (hpin:Inv.pin=E.pin) (hor:OrcOk P Inv E) {c:Code} (hlo:LoOk P Inv E c) {live liveO:List Nat} {conv:List (Nat×Nat×TypeId)} {step:σ→Option (σ⊕ρ)} (L:σ→List AV×List Box) (out:ρ→LR)
  (hout:∀ r,(out r).eval.1≠.normal)
  (round:∀ s r,step s=some r→XR P E live liveO conv c (L s).1 (L s).2=some (encR L out r)) {s:σ} {r:ρ} (h:Iter step s=some r) :
  DoesL P Inv c (fun e1 s1=>e1=(out r).eval.1∧s1=⟨mkTs E.nt (liveO.zip (out r).eval.2.1),(out r).eval.2.2⟩) ⟨mkTs E.nt (live.zip (L s).1),(L s).2⟩:=by
 obtain ⟨n,hn⟩:=xdq.1 h
 refine xk9 (xhP (fun n s=>∃ b,iterN step n b=some r∧s=⟨mkTs E.nt (live.zip (L b).1),(L b).2⟩) (n0:=n) (Weak.refl _ _) ⟨s,hn,rfl⟩ ?_)
 rintro n s1 ⟨b,hb,rfl⟩
 have run:∀ (e0:Exit) (vs:List AV) (H':List Box),XR P E live liveO conv c (L b).1 (L b).2=some (e0,vs,H')→Does P Inv c (fun e s'=>e=e0∧Weak Inv.pin s' ⟨mkTs E.nt ((match e with|.normal=>live|_=>liveO).zip vs),H'⟩) ⟨mkTs E.nt (live.zip (L b).1),(L b).2⟩:=fun e0 vs H' hx=>by
  unfold XR at hx
  rw [xat] at hx
  refine xbJ (xbW (good:=fun t=>t=some (e0,vs,H')) hmx hIo hpin (by simp) hor c _ _ hlo hx) fun e s' hq=>?_
  have key:∀ (cv:List (Nat×Nat×TypeId)) (lv:List Nat) (e':Exit),(match normS E.pin cv lv s' with
    | some (vs,H')=>forces vs fun vs=>forceH H' fun H'=>br (Nat.beq s'.tmps.length E.nt) (some (e',vs,H')) none
    | none=>none)=some (e0,vs,H')→e'=e0∧Weak Inv.pin s' ⟨mkTs E.nt (lv.zip vs),H'⟩:=fun cv lv e' hq=>by
   split at hq
   case h_2=>simp at hq
   rename_i vs1 H1 hno
   rw [xat,xaz] at hq
   obtain ⟨h1,h2⟩:=xaY (good:=fun t=>t=some (e0,vs,H')) (by simp) hq
   simp only [Option.some.injEq,Prod.mk.injEq] at h2
   obtain ⟨rfl,rfl,rfl⟩:=h2
   have hw:=xgA hno
   rw [Nat.eq_of_beq_eq_true h1,←hpin] at hw
   exact ⟨rfl,hw⟩
  cases e with
  | normal=>exact key conv live .normal hq
  | exit id=>exact key [] liveO (.exit id) hq
  | ret=>exact key [] liveO .ret hq
  | goto l=>exact key [] liveO (.goto l) hq
  | panic ch=>exact key [] liveO (.panic ch) hq
  | outgrown=>exact key [] liveO .outgrown hq
 cases n with
 | zero=>simp [iterN] at hb
 | succ n =>
  unfold iterN at hb
  split at hb
  · rename_i b' hs
    have hx:=round b _ hs
    refine xbJ (run _ _ _ hx) fun e s' ⟨he,hw⟩=>?_
    subst he
    exact ⟨n,_,Nat.lt_succ_self n,hw,b',hb,rfl⟩
  · rename_i r' hs
    simp only [Option.some.injEq] at hb
    subst hb
    have hx:=round b _ hs
    refine xbJ (run _ _ _ hx) fun e s' ⟨he,hw⟩=>?_
    have hne:=hout r'
    rw [←he] at hne
    have:∃ s'',Weak Inv.pin s' s''∧e=(out r').eval.1∧s''=⟨mkTs E.nt (liveO.zip (out r').eval.2.1),(out r').eval.2.2⟩:=by
     refine ⟨_,?_,he,rfl⟩
     cases e<;>first|exact (hne rfl).elim|exact hw
    cases e with
    | normal=>exact (hne rfl).elim
    | _=>exact this
  · simp at hb
end Go.Sim
end
