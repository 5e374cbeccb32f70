/- Part 6 of the proof of the law. -/
import Derived.Test.YtefdfdjimkinpaaGreatDoorTA5
set_option linter.defProp false
set_option linter.unusedVariables false
set_option linter.unusedSimpArgs false
set_option linter.unnecessarySimpa false
noncomputable section
namespace Go.Sim
open Go.RowKit
def mapC (r:AV->Option (Bool×AV)):List AV->Option (Bool×List AV)
 | []=>some (true,[])
 | x::xs=>match r x with
  | some (b,y)=>match mapC r xs with
   | some (c,ys)=>some (b&&c,y::ys)
   | none=>none
  | none=>none
def resEC (r:AV->Option (Bool×AV)):AV->Option (Bool×AV)
 | .agg cs=>match mapC r cs with
  | some (b,ds)=>some (b,.agg ds)
  | none=>none
 | x=>r x
def resC (H:List Box):Nat->AV->Option (Bool×AV)
 | 0,x=>some (x.pure,x)
 | n+1,x=>match x with
  | .agg cs=>match mapC (resC H n) cs with
   | some (b,ds)=>some (b,.agg ds)
   | none=>none
  | .func f cs=>match Nat.beq f vpF with
   | true=>none
   | false=>match mapC (resC H n) cs with
    | some (b,ds)=>some (b,.func f ds)
    | none=>none
  | .own id ver i j=>match getV H id ver with
   | some (bv,bx)=>match isC bx.ty with
    | true=>none
    | false=>match bx.pm with
     | true=>some (bv&&decide (i<bx.xs.length),.eptr bx.sz bx.xs i j)
     | false=>match mapC (resEC (resC H n)) bx.xs with
      | some (b,ys)=>some (bv&&(b&&decide (i<bx.xs.length)),.eptr bx.sz ys i j)
      | none=>none
   | none=>none
  | .osl id ver off len=>match getV H id ver with
   | some (bv,bx)=>match isC bx.ty with
    | true=>match bx.pm with
     | true=>some (bv&&(decide (off+len<=bx.xs.length)&&rowsOk bx ((bx.xs.drop off).take len)),.list bx.sz ((bx.xs.drop off).take len))
     | false=>none
    | false=>match bx.pm with
     | true=>some (bv&&decide (off+len<=bx.xs.length),.list bx.sz ((bx.xs.drop off).take len))
     | false=>match mapC (resEC (resC H n)) ((bx.xs.drop off).take len) with
      | some (b,ys)=>some (bv&&(b&&decide (off+len<=bx.xs.length)),.list bx.sz ys)
      | none=>none
   | none=>none
  | x=>some (x.pure,x)
def xgX {r:AV->Option (Bool×AV)} {q:AV->Option AV} (h:∀ x y,r x=some (true,y)->q x=some y):∀ {xs ys:List AV},mapC r xs=some (true,ys)->mapO q xs=some ys
 | [],ys,e=>by simp only [mapC,z6,zb,true_and] at e;subst e;rfl
 | x::xs,ys,e=>by
  unfold mapC at e;split at e
  case h_2=>simp at e
  rename_i b y hx;split at e
  case h_2=>simp at e
  rename_i c zs hz;simp only [z6,zb,zg] at e;obtain ⟨⟨rfl,rfl⟩,rfl⟩:=e;unfold mapO;rw [h _ _ hx,xgX h hz]
def xjP {r:AV->Option (Bool×AV)}:∀ {xs ys:List AV},mapC r xs=some (true,ys)->∀ x,x∈xs->∃ y,r x=some (true,y)
 | [],ys,e,x,hx=>by simp at hx
 | x::xs,ys,e,z,hz=>by
  unfold mapC at e;split at e
  case h_2=>simp at e
  rename_i b y hx;split at e
  case h_2=>simp at e
  rename_i c zs q;simp only [z6,zb,zg] at e;obtain ⟨⟨rfl,rfl⟩,rfl⟩:=e;rcases zD.1 hz with rfl|hz
  . exact ⟨_,hx⟩
  . exact xjP q z hz
def xqk {H:List Box} {n:Nat}:∀ {xs:List AV},AV.pures xs=true->mapO (resolve H n) xs=some xs
 | [],_=>rfl
 | x::xs,h=>by
  simp only [AV.pures,zg] at h;unfold mapO;rw [xip h.1,xqk h.2]
def xsS {r:AV->Option (Bool×AV)} {q:AV->Option AV} (h:∀ x y,r x=some (true,y)->q x=some y) (x y:AV) (e:resEC r x=some (true,y)):resE q x=some y:=by
 cases x<;>first|exact h _ _ e|skip
 simp only [resEC] at e;split at e
 case h_2=>simp at e
 rename_i b ds hd;simp only [z6,zb] at e;obtain ⟨rfl,rfl⟩:=e;simp only [resE,xgX h hd]
def xj4 {H:List Box}:∀ (n:Nat) (x y:AV),resC H n x=some (true,y)->resolve H n x=some y
 | 0,x,y,e=>by
  simp only [resC,z6,zb] at e;rw [<-e.2];exact xip e.1
 | n+1,x,y,e=>by
  have ih:=xj4 (H:=H) n;unfold resC at e;split at e
  . rename_i cs;split at e
    case h_2=>simp at e
    rename_i b ds hd;simp only [z6,zb] at e;obtain ⟨rfl,rfl⟩:=e;have hm:=xgX ih hd;by_cases hp:AV.pures cs=true
    . rw [xqk hp] at hm;cases hm;exact xip (by simpa [AV.pure] using hp)
    . unfold resolve;rw [if_neg (by simpa [AV.pure] using hp)]
      simp only [hm]
  . rename_i f cs;split at e
    . simp at e
    rename_i O;split at e
    case h_2=>simp at e
    rename_i b ds hd;simp only [z6,zb] at e;obtain ⟨rfl,rfl⟩:=e;have hm:=xgX ih hd;by_cases hp:AV.pures cs=true
    . rw [xqk hp] at hm;cases hm;exact xip (by simpa [AV.pure] using hp)
    . unfold resolve;rw [if_neg (by simpa [AV.pure] using hp)]
      simp only [O,hm]
  . rename_i id ver i j;split at e
    case h_2=>simp at e
    rename_i bv bx hb;unfold resolve;rw [if_neg (by simp [AV.pure])]
    split at e
    . simp at e
    rename_i D;split at e
    . rename_i q;simp only [z6,zb,zg,zm] at e;obtain ⟨⟨rfl,h2⟩,rfl⟩:=e;simp only [xbm hb,mapE,q,if_true];exact if_pos ⟨h2,D⟩
    . rename_i q;split at e
      case h_2=>simp at e
      rename_i b ys hy;simp only [z6,zb,zg,zm] at e;obtain ⟨⟨rfl,rfl,h2⟩,rfl⟩:=e;simp only [xbm hb,mapE,q,zU,if_false,xgX (xsS ih) hy];exact if_pos ⟨h2,D⟩
  . rename_i id ver off len;split at e
    case h_2=>simp at e
    rename_i bv bx hb;unfold resolve;rw [if_neg (by simp [AV.pure])]
    split at e
    . split at e
      case h_2=>simp at e
      rename_i q;simp only [z6,zb,zg,zm] at e;obtain ⟨⟨rfl,h2,h3⟩,rfl⟩:=e;simp only [xbm hb,mapE,q,if_true];exact if_pos ⟨h2,h3⟩
    rename_i D;have J:rowsOk bx ((bx.xs.drop off).take len)=true:=by unfold rowsOk;rw [D]
    split at e
    . rename_i q;simp only [z6,zb,zg,zm] at e;obtain ⟨⟨rfl,h2⟩,rfl⟩:=e;simp only [xbm hb,mapE,q,if_true];exact if_pos ⟨h2,J⟩
    . rename_i q;split at e
      case h_2=>simp at e
      rename_i b ys hy;simp only [z6,zb,zg,zm] at e;obtain ⟨⟨rfl,rfl,h2⟩,rfl⟩:=e;simp only [xbm hb,mapE,q,zU,if_false,xgX (xsS ih) hy];exact if_pos ⟨h2,J⟩
  . simp only [z6,zb] at e;rw [<-e.2];exact xip e.1
def getF (H:List Box):Id->Option Box
 | .b n=>H[n]?
 | .r n i j=>match H[n]? with
  | some bx=>match xH9 bx.ty j,bx.pm with
   | true,true=>some ⟨2*((bx.xs.getD i .top).cells.getD j .top).toList.length,rowSz bx.ty,rowTy bx.ty,((bx.xs.getD i .top).cells.getD j .top).toList,bx.frz,true⟩
   | _,_=>none
  | none=>none
def xIH (H:List Box):Nat->AV->List Nat
 | 0,_=>[]
 | n+1,x=>match x with
  | .agg cs=>cs.flatMap (xIH H n)
  | .func _ cs=>cs.flatMap (xIH H n)
  | .own id _ _ _=>id.base::(match getF H id with|some bx=>(match bx.pm with|true=>[]|false=>bx.xs.flatMap fun (e:AV)=>e.cells.flatMap (xIH H n))|none=>[])
  | .osl id _ off len=>id.base::(match getF H id with|some bx=>(match bx.pm with|true=>[]|false=>((bx.xs.drop off).take len).flatMap fun (e:AV)=>e.cells.flatMap (xIH H n))|none=>[])
  | _=>[]
def xdH {α β:Type} {f g:α->List β}:∀ {l:List α},(∀ x,x∈l->f x=g x)->l.flatMap f=l.flatMap g
 | [],_=>rfl
 | x::xs,h=>by
  rw [zS,zS,h x (by simp),xdH fun y hy=>h y (by simp [hy])]
def xm5 {α β:Type} {f:α->List β}:∀ {l:List α},(∀ x,x∈l->f x=[])->l.flatMap f=[]
 | [],_=>rfl
 | x::xs,h=>by
  rw [zS,h x (by simp),xm5 fun y hy=>h y (by simp [hy])];rfl
def xun {xs:List AV} (h:AV.pures xs=true) {x:AV} (hx:x∈xs):x.pure=true:=by
 rw [xrX,zJ] at h;exact h x hx
def xrJ {H:List Box} {id:Id} {ver:Nat} {b:Bool} {bx:Box} (h:getV H id ver=some (b,bx)):getF H id=some bx:=by unfold getV getF at *;grind
def xrp {r:AV->Option (Bool×AV)} {e y:AV} (h:resEC r e=some (true,y)):∀ c,c∈e.cells->∃ d,r c=some (true,d):=by
 intro c hc;cases e<;>first|(simp only [AV.cells,zw] at hc;subst hc;exact ⟨_,h⟩)|skip
 simp only [resEC] at h;split at h
 case h_2=>simp at h
 rename_i b ds hd;simp only [z6,zb] at h;obtain ⟨rfl,_⟩:=h;exact xjP hd c hc
def xlJ {H:List Box}:∀ (n:Nat) (x y:AV),resC H n x=some (true,y)->reach H n x=xIH H n x
 | 0,x,y,e=>by simp [reach,xIH]
 | n+1,x,y,e=>by
  have ih:=xlJ (H:=H) n;unfold resC at e;split at e
  . rename_i cs;split at e
    case h_2=>simp at e
    rename_i b ds hd;simp only [z6,zb] at e;obtain ⟨rfl,rfl⟩:=e;have h1:cs.flatMap (reach H n)=cs.flatMap (xIH H n):=xdH fun c hc=>by obtain ⟨d,O⟩:=xjP hd c hc;exact ih c d O
    unfold reach;simp only [xIH];split
    . rename_i hp;rw [<-h1,xm5 fun c hc=>xpc (xun (by simpa [AV.pure] using hp) hc)]
    . exact h1
  . rename_i f cs;split at e
    . simp at e
    rename_i Q;split at e
    case h_2=>simp at e
    rename_i b ds hd;simp only [z6,zb] at e;obtain ⟨rfl,rfl⟩:=e;have h1:cs.flatMap (reach H n)=cs.flatMap (xIH H n):=xdH fun c hc=>by obtain ⟨d,O⟩:=xjP hd c hc;exact ih c d O
    unfold reach;simp only [xIH];split
    . rename_i hp;rw [<-h1,xm5 fun c hc=>xpc (xun (by simpa [AV.pure] using hp) hc)]
    . exact h1
  . rename_i id ver i j;split at e
    case h_2=>simp at e
    rename_i bv bx hb;unfold reach;rw [if_neg (by simp [AV.pure])]
    split at e
    . simp at e
    have D:bv=true:=by
     split at e
     . simp only [z6,zb,zg] at e;exact e.1.1
     . split at e
       case h_2=>simp at e
       simp only [z6,zb,zg] at e;exact e.1.1
    subst D;simp only [xIH,xrJ hb,(xaJ (xbm hb)).1];congr 1;split at e
    . rename_i q;simp only [q,if_true]
    . rename_i q;split at e
      case h_2=>simp at e
      rename_i b ys hy;simp only [z6,zb,zg] at e;obtain ⟨⟨_,rfl,_⟩,_⟩:=e;simp only [q,zU,if_false];exact xdH fun e he=>xdH fun c hc=>by
       obtain ⟨y,J⟩:=xjP hy e he;obtain ⟨d,hd⟩:=xrp J c hc;exact ih c d hd
  . rename_i id ver off len;split at e
    case h_2=>simp at e
    rename_i bv bx hb;unfold reach;rw [if_neg (by simp [AV.pure])]
    split at e
    . split at e
      case h_2=>simp at e
      rename_i q;simp only [z6,zb,zg] at e;obtain ⟨⟨rfl,_⟩,_⟩:=e;simp only [xIH,xrJ hb,(xaJ (xbm hb)).1,q,if_true]
    have D:bv=true:=by
     split at e
     . simp only [z6,zb,zg] at e;exact e.1.1
     . split at e
       case h_2=>simp at e
       simp only [z6,zb,zg] at e;exact e.1.1
    subst D;simp only [xIH,xrJ hb,(xaJ (xbm hb)).1];congr 1;split at e
    . rename_i q;simp only [q,if_true]
    . rename_i q;split at e
      case h_2=>simp at e
      rename_i b ys hy;simp only [z6,zb,zg] at e;obtain ⟨⟨_,rfl,_⟩,_⟩:=e;simp only [q,zU,if_false];exact xdH fun e he=>xdH fun c hc=>by
       obtain ⟨y,J⟩:=xjP hy e he;obtain ⟨d,hd⟩:=xrp J c hc;exact ih c d hd
  . simp only [z6,zb] at e;rw [xpc e.1];rename_i h1 h2 h3 h4;cases x<;>first|rfl|exact (h1 _ rfl).elim|exact (h2 _ _ rfl).elim|exact (h3 _ _ _ _ rfl).elim|exact (h4 _ _ _ _ rfl).elim
def xsN {H:List Box} {n:Nat} {xs ys:List AV} (h:mapC (resC H n) xs=some (true,ys)):xs.flatMap (reach H n)=xs.flatMap (xIH H n) :=
 xdH fun c hc=>by obtain ⟨d,hd⟩:=xjP h c hc;exact xlJ n c d hd
def afterC (H:List Box) (args:List AV) (r:AV):List Box:=if r.flat=true then H else freeze H (args.flatMap (xIH H xIs))
def xAj {H:List Box} {xs ys:List AV} (h:mapC (resC H xIs) xs=some (true,ys)) (r:AV):afterC H xs r=xIL H xs r:=by
 unfold afterC xIL;rw [xsN h]
inductive LR where
 | leaf (e:Exit) (out:List AV) (H:List Box)
 | node (t:Bool) (a b:LR)
def LR.eval:LR->Exit×List AV×List Box
 | .leaf e o H=>(e,o,H)
 | .node t a b=>match t with
  | true=>a.eval
  | false=>b.eval
def LR.run {T:Type} (f:Exit->List AV->List Box->T):LR->T
 | .leaf e o H=>f e o H
 | .node t a b=>br t (a.run f) (b.run f)
def LR.run_good {T:Type} {good:T->Prop} {f:Exit->List AV->List Box->T}:∀ {r:LR},good (r.run f)->good (f r.eval.1 r.eval.2.1 r.eval.2.2)
 | .leaf e o H,h=>h
 | .node true a b,h=>LR.run_good (r:=a) h
 | .node false a b,h=>LR.run_good (r:=b) h
structure Lp where
 live:List Nat
 liveO:List Nat
 conv:List (Nat×Nat×TypeId)
 run:List AV->List Box->Option (Bool×LR)
structure Env where
 orc:FuncId->List AV->Option (Bool×AV)
 isM:FuncId->Bool
 orcM:FuncId->List AV->List Box->Option (Bool×AV×List Box)
 lp:Nat->Option Lp
 nt:Nat
 fuel:Nat
 pin:Nat
 ls:TypeId->Bool
def xIm:Code->Nat
 | .region id _ _=>id
 | .seq a _=>xIm a
 | .block _ c=>xIm c
 | .loop c=>xIm c
 | .cond _ a _=>xIm a
 | _=>0
def isRngOp:List Oper->Bool
 | []=>false
 | [o]=>match o.op with
  | .range _ _=>true
  | _=>false
 | _::l=>isRngOp l
def isRng:Code->Bool
 | .region _ ops _=>isRngOp ops.toList
 | _=>false
def xIr:Code->List Code
 | .seq a b=>match isRng a with
  | true=>[]
  | false=>xIr a++xIr b
 | .block _ c=>xIr c
 | .loop c=>c::xIr c
 | .cond _ a b=>xIr a++xIr b
 | _=>[]
def xIn:Code->List Code
 | .seq a b=>match isRng a with
  | true=>[.seq a b]
  | false=>xIn a++xIn b
 | .block _ c=>xIn c
 | .loop c=>xIn c
 | .cond t a b=>.cond t a b::(xIn a++xIn b)
 | .rangeFunc g ps a b=>[.rangeFunc g ps a b]
 | _=>[]
def condId:Code->Nat
 | .cond _ a _=>1000000+xIm a
 | .rangeFunc _ _ _ b=>3000000+xIm b
 | .seq a _=>4000000+xIm a
 | _=>0
def xH8 (P:Program) (Inv:IV) (E:Env):Prop:=(∀ g args r,E.orc g args=some (true,r)->Good P Inv g args r)/\∀ g args H r H',E.orcM g args H=some (true,r,H')->GoodM P Inv g args H r H'
def LoopOk (P:Program) (Inv:IV) (nt:Nat) (l:Code) (lp:Lp):Prop :=
 ∀ vals H r,lp.run vals H=some (true,r)->DoesL P Inv l (fun e1 s1=>e1=r.eval.1/\s1=⟨mkTs nt (lp.liveO.zip r.eval.2.1),r.eval.2.2⟩) ⟨mkTs nt (lp.live.zip vals),H⟩
def PieceOk (P:Program) (Inv:IV) (nt:Nat) (d:Code) (lp:Lp):Prop :=
 ∀ vals H r,lp.run vals H=some (true,r)->Does P Inv d (fun e1 s1=>e1=r.eval.1/\s1=⟨mkTs nt (lp.liveO.zip r.eval.2.1),r.eval.2.2⟩) ⟨mkTs nt (lp.live.zip vals),H⟩
def LoOk (P:Program) (Inv:IV) (E:Env) (c:Code):Prop:=(∀ l,l∈xIr c->∀ lp,E.lp (xIm l)=some lp->LoopOk P Inv E.nt l lp)/\∀ d,d∈xIn c->∀ lp,E.lp (condId d)=some lp->PieceOk P Inv E.nt d lp
def LoOk.sub {P:Program} {Inv:IV} {E:Env} {c c':Code} (h:LoOk P Inv E c) (h1:∀ l,l∈xIr c'->l∈xIr c) (h2:∀ d,d∈xIn c'->d∈xIn c):LoOk P Inv E c':=⟨fun l hl=>h.1 l (h1 l hl),fun d hd=>h.2 d (h2 d hd)⟩
def xsn {P:Program} {Inv:IV} {c:Code} {s s':St} {Q:Exit->St->Prop} (hw:Weak Inv.pin s s') (h:DoesL P Inv c Q s'):DoesL P Inv c Q s :=
 fun w0 A0 w A M a Qc hI hp hs hQ=>by
  obtain ⟨A'',M'',q⟩:=hw w0 A0 w A M a hp hs;exact h w0 A0 w A'' M'' a Qc hI hp q hQ
def xnK {P:Program} {Inv:IV} {c:Code} {s s':St} {Q:Exit->St->Prop} (hw:Weak Inv.pin s s') (h:Does P Inv c Q s'):Does P Inv c Q s :=
 fun w0 A0 w A M a Qc hI hp hs hQ=>by
  obtain ⟨A'',M'',q⟩:=hw w0 A0 w A M a hp hs;exact h w0 A0 w A'' M'' a Qc hI hp q hQ
section exec
variable {T : Type} (P : Program) (E : Env) (bad : T)
def xplain (q:Bool) (o:Oper) (s:St) (K:St->T):T :=
 if isImp o.op=true then
  (if q=true then match forkC P s.eval s.heap o.op with
   | some (b,has,b1,x,y)=>br b (br has (br b1 (force x fun x'=>putK s.tmps o.dst x' fun ts=>K ⟨ts,s.heap⟩) bad) (force y fun x'=>putK s.tmps o.dst x' fun ts=>K ⟨ts,s.heap⟩)) bad
   | none=>match iopC P s.eval s.heap o.op with
    | some (b,x,H)=>br b (force x fun x'=>putK s.tmps o.dst x' fun ts=>xIC H fun H'=>K ⟨ts,H'⟩) bad
    | none=>bad
  else bad)
 else match fopC P E.ls s.eval s.heap s.heap.length o.op with
  | some (b,x,nb)=>br b (force x fun x'=>putK s.tmps o.dst x' fun ts=>xIC (s.heap++nb.toList) fun H'=>K ⟨ts,H'⟩) bad
  | none=>bad
def xcallM (o:Oper) (c:Call) (s:St) (K:St->T):T :=
 match xIW s c with
 | some (g,args) =>
  let ids:=gather s.heap 1000 (refsOf.refsL args) [];match nodupB ids with
  | true=>match subBoxes (inF ids) s.heap ids with
   | some H0=>xI1 (rens (inF ids) args) fun aS=>xIC H0 fun H0=>match E.orcM g aS H0 with
    | some (b,r0,H0')=>br b (force (ren (outF ids s.heap.length ids.length) r0) fun r'=>putK s.tmps o.dst r' fun ts=>xIC (outHeap s.heap ids H0') fun H'=>K ⟨ts,H'⟩) bad
    | none=>bad
   | none=>bad
  | false=>bad
 | none=>bad
def contOf (H:List Box):List AV->Option Nat
 | []=>none
 | .osl (.b n) _ _ _::r=>match H[n]? with
  | some bx=>match isC bx.ty with
   | true=>some n
   | false=>contOf H r
  | none=>contOf H r
 | _::r=>contOf H r
def xcallU (o:Oper) (c:Call) (s:St) (K:St->T):T :=
 match xIW s c with
 | some (_,args)=>match contOf s.heap args with
  | some n=>match s.heap[n]? with
   | some bx=>match isC bx.ty&&!xIa bx.ty with
    | true=>br (rowsOk bx bx.xs) (xIC (s.heap.set n ⟨bx.ver,bx.sz,rty bx.ty,bx.xs,bx.frz,true⟩) fun H=>xcallM E bad o c ⟨s.tmps,H⟩ K) bad
    | false=>bad
   | none=>bad
  | none=>xcallM E bad o c s K
 | none=>bad
def callIsM (s:St) (c:Call):Bool:=match xIW s c with
 | some (g,_)=>E.isM g&&!E.ls (12000000+g)
 | none=>false
def xfresh (o:Oper) (g:FuncId) (args aS:List AV) (s:St) (K:St->T):T:=match E.orcM g aS [] with
 | some (b2,.osl (.b z) v off k,[bx])=>br b2 (br (Nat.beq z 0&&(Nat.beq off 0&&(!isC bx.ty&&bx.pm))) (putK s.tmps o.dst (.osl (.b s.heap.length) v 0 k) fun ts=>xIC (freeze s.heap (args.flatMap (xIH s.heap xIs))++[bx]) fun H'=>K ⟨ts,H'⟩) bad) bad
 | _=>bad
def xcall (o:Oper) (c:Call) (s:St) (K:St->T):T :=
 match xIW s c with
 | some (g,args)=>match mapC (resC s.heap xIs) args with
  | some (b,args')=>br b (xI1 args' fun aS=>match E.ls (12000000+g) with
   | true=>xfresh E bad o g args aS s K
   | false=>match E.orc g aS with
    | some (b2,r)=>br b2 (force r fun r'=>putK s.tmps o.dst r' fun ts=>xIC (afterC s.heap args r') fun H'=>K ⟨ts,H'⟩) bad
    | none=>bad) bad
  | none=>bad
 | none=>bad
def xop (q:Bool) (o:Oper) (s:St) (K:St->T):T :=
 match o.op with
 | .pick c a b=>match s.eval c with
  | .bool t=>br t (force (s.eval a) fun x=>putK s.tmps o.dst x fun ts=>K ⟨ts,s.heap⟩) (force (s.eval b) fun x=>putK s.tmps o.dst x fun ts=>K ⟨ts,s.heap⟩)
  | _=>bad
 | .call c=>match c.callee with
  | .value _=>match callIsM E s c with
   | true=>match q with
    | true=>xcallU E bad o c s K
    | false=>bad
   | false=>xcall E bad o c s K
  | _=>xplain P E bad q o s K
 | _=>xplain P E bad q o s K
def stlV (H:List Box):AV->Bool×AV×List Nat
 | .osl id ver off len=>match resC H xIs (.osl id ver off len) with
  | some (b,y)=>(b,y,xIH H xIs (.osl id ver off len))
  | none=>(false,.top,[])
 | .own id ver i j=>match resC H xIs (.own id ver i j) with
  | some (b,y)=>(b,y,xIH H xIs (.own id ver i j))
  | none=>(false,.top,[])
 | x=>(true,x,[])
def stlAll (H:List Box) (q:List AV):List Nat->Bool×List AV×List Nat
 | []=>(true,q,[])
 | t::r=>match stlAll H q r with
  | (b,ts,ids)=>match stlV H (q.getD t .top) with
   | (b',y,ids')=>(b'&&b,ts.set t y,ids'++ids)
def oslTs (ts:List AV):List Operand->List Nat
 | []=>[]
 | .tmp t::r=>match ts.getD t .top with
  | .osl _ _ _ _=>t::oslTs ts r
  | _=>oslTs ts r
 | _::r=>oslTs ts r
def oslMix (H:List Box) (ts:List AV):Operand->List Nat
 | .tmp t=>match ts.getD t .top with
  | .osl (.b id) _ _ _=>match H[id]? with
   | some bx=>match bx.pm with
    | true=>[]
    | false=>[t]
   | none=>[]
  | _=>[]
 | _=>[]
def needS (s:St) (o:Oper):List Nat:=match o.op with
 | .buildSlice t _ _=>match P.underlying t with
  | some (.slice e)=>match E.ls e with
   | true=>oslTs s.tmps o.op.operands.toList
   | false=>[]
  | _=>[]
 | .build t _=>match E.ls t || E.ls (9000000+t) with
  | true=>oslTs s.tmps o.op.operands.toList
  | false=>[]
 | .move a=>match o.dst with
  | some d=>match E.ls (2000000+d) with
   | true=>oslTs s.tmps [a]
   | false=>[]
  | none=>[]
 | .store t _ v=>match E.ls (4000000+t) with
  | true=>oslTs s.tmps [v]
  | false=>[]
 | .call c=>match c.callee with
  | .builtin b=>match b,c.argTypes.toList,c.args.toList with
   | .append,[t,_],[_,x]=>match P.underlying t with
    | some (.slice e)=>match E.ls e with
     | true=>oslMix s.heap s.tmps x
     | false=>[]
    | _=>[]
   | _,_,_=>[]
  | _=>[]
 | _=>[]
def xset (tl:List Nat) (o:Oper) (s:St) (K:St->T):T:=match stlAll s.heap s.tmps tl with
 | (b,q,ids)=>br b (xI1 q fun q=>xIC (freeze s.heap ids) fun H1=>match isImp o.op with
  | true=>match iopC P (St.eval ⟨q,H1⟩) H1 o.op with
   | some (b2,x,H2)=>br b2 (force x fun x'=>putK s.tmps o.dst x' fun ts=>xIC H2 fun H'=>K ⟨ts,H'⟩) bad
   | none=>bad
  | false=>match fopC P E.ls (St.eval ⟨q,H1⟩) H1 H1.length o.op with
  | some (b2,x,nb)=>br b2 (force x fun x'=>putK s.tmps o.dst x' fun ts=>xIC (H1++nb.toList) fun H'=>K ⟨ts,H'⟩) bad
  | none=>bad) bad
def xfrz (o:Oper) (s:St) (K:St->T):T:=match fopBC s.eval o.op with
 | some (b,x)=>br b (force x fun x'=>putK s.tmps o.dst x' fun ts=>K ⟨ts,s.heap⟩) bad
 | none=>bad
def xopS (q:Bool) (o:Oper) (s:St) (K:St->T):T:=match needS P E s o with
 | []=>match frzOp E.ls o.op with
  | true=>xfrz bad o s K
  | false=>xop P E bad q o s K
 | t::r=>match q with
  | true=>xset P E bad (t::r) o s K
  | false=>bad
def xguard (ops:Array Oper) (o:Oper) (s:St) (K:Bool->St->T):T :=
 match o.guard with
 | none=>K true s
 | some (j,want)=>match xIF ops j with
  | none=>K false s
  | some d=>match s.tmps[d]? with
   | none=>K false s
   | some (.bool t)=>br t (setK s.tmps d (.bool true) fun ts=>K (true==want) ⟨ts,s.heap⟩) (setK s.tmps d (.bool false) fun ts=>K (false==want) ⟨ts,s.heap⟩)
   | some (.tuple _)=>K false s
   | _=>bad
def xopE (o:Oper) (s:St) (K:St->T):T:=match fopEC P s.eval s.heap s.heap.length o.op with
 | some (b,x,nb)=>br b (force x fun x'=>putK s.tmps o.dst x' fun ts=>xIC (s.heap++nb.toList) fun H'=>K ⟨ts,H'⟩) bad
 | none=>xop P E bad false o s K
def xopL (o:Oper) (s:St) (K:St->T):T:=match forkC P s.eval s.heap o.op with
 | some (b,has,b1,x,y)=>br b (br has (br b1 (force x fun x'=>putK s.tmps o.dst x' fun ts=>K ⟨ts,s.heap⟩) bad) (force y fun x'=>putK s.tmps o.dst x' fun ts=>K ⟨ts,s.heap⟩)) bad
 | none=>match o.op with
  | .lookup _ _ _ _=>xopE P E bad o s K
  | _=>xopS P E bad false o s K
def xopM (md:Option Bool) (o:Oper) (s:St) (K:St->T):T:=match md with
 | some true=>xopS P E bad true o s K
 | some false=>xopL P E bad o s K
 | none=>xopE P E bad o s K
def xOps (q:Option Bool) (ops:Array Oper):List Oper->St->(St->T)->T
 | [],s,K=>K s
 | o::rest,s,K=>xguard bad ops o s fun b s1=>match b with
  | true=>xopM P E bad q o s1 fun s'=>xOps q ops rest s' K
  | false=>putK s1.tmps o.dst (.tuple []) fun ts=>xOps q ops rest ⟨ts,s1.heap⟩ K
def impOp (o:Oper):Bool:=match o.op with
 | .call c=>match c.callee with
  | .value (.func g)=>E.isM g&&!E.ls (12000000+g)
  | _=>isImp o.op
 | .lookup _ _ _ _=>match E.ls 8000000 with
  | true=>false
  | false=>true
 | _=>isImp o.op
def freeN:List Oper->Nat
 | []=>0
 | o::l=>match impOp E o with
  | true=>0
  | false=>freeN l+1
def xTail (ops:Array Oper) (m:Nat):Nat->List Oper->St->(St->T)->T
 | _,[],s,K=>K s
 | k,o::rest,s,K=>match outT ops m ((masks ops).getD k 0) with
  | []=>xguard bad ops o s fun b s1=>match b with
   | true=>xopS P E bad true o s1 fun s'=>xTail ops m (k+1) rest s' K
   | false=>putK s1.tmps o.dst (.tuple []) fun ts=>xTail ops m (k+1) rest ⟨ts,s1.heap⟩ K
  | d::ds=>match o.guard with
   | none=>xI1 (maskT (d::ds) s.tmps) fun ms=>xopS P E bad true o ⟨ms,s.heap⟩ fun s'=>xI1 (restT (d::ds) s.tmps s'.tmps) fun ts=>xTail ops m (k+1) rest ⟨ts,s'.heap⟩ K
   | some _=>bad
def isAsg (o:Oper):Bool:=match o.op with
 | .assign _=>true
 | _=>false
def tailA:List Oper->Nat
 | []=>0
 | o::l=>match isAsg o with
  | true=>tailA l+1
  | false=>0
def cutN (ops:Array Oper):Nat:=match regOk false ops (freeN E ops.toList) with
 | true=>freeN E ops.toList
 | false=>match regOk false ops (freeN E ops.toList - 1) with
  | true=>freeN E ops.toList - 1
  | false=>freeN E ops.toList - tailA (ops.toList.take (freeN E ops.toList)).reverse
def cutA (ops:Array Oper):Nat:=freeN E ops.toList - tailA (ops.toList.take (freeN E ops.toList)).reverse
def appTo (o:Oper):Option Tmp:=match o.op with
 | .call c=>match c.callee with
  | .builtin b=>match b,c.args.toList with
   | .append,[.tmp d,_]=>some d
   | _,_=>none
  | _=>none
 | _=>none
def lit0 (o:Oper):Option Tmp:=match o.op with
 | .buildSlice _ len _=>match len with
  | 0=>o.dst
  | _+1=>none
 | _=>none
def freeE (q:List Tmp):List Oper->Nat
 | []=>0
 | o::l=>match impOp E o with
  | true=>match appTo o with
   | some d=>match (xIt q d).isSome with
    | true=>freeE q l+1
    | false=>0
   | none=>0
  | false=>freeE q l+1
def cutE (ops:Array Oper):Nat:=freeE E (ops.toList.filterMap lit0) ops.toList
def ptrsOk (ops:Array Oper) (m:Nat) (s:St):Bool:=(List.range m).all fun i=>match ops[i]? with
 | some o=>match xIz true ops m i with
  | true=>match xIj ops s.tmps o with
   | some false=>true
   | _=>ptrOk s.eval o.op
  | false=>true
 | none=>true
def xrl {ops:Array Oper} {m:Nat} {s:St} (h:ptrsOk ops m s=true):∀ i o,i<m->ops[i]?=some o->xIz true ops m i=true->xIj ops s.tmps o=some true->ptrOk s.eval o.op=true:=fun i o hi ho hf hw=>by
 have:=zJ.1 h i (List.mem_range.2 hi);simp only [ho,hf,hw] at this;exact this
def xst {ops:Array Oper} {m:Nat} {s:St}:∀ i o,i<m->ops[i]?=some o->xIz false ops m i=true->xIj ops s.tmps o=some true->ptrOk s.eval o.op=true:=fun i o _ ho hf _=>by
 obtain ⟨o',q,h,_⟩:=xid hf;rw [ho] at q;cases q;exact xCA h
def xReg1 (ops:Array Oper) (q:Bool) (s:St) (K:St->T):T:=match noDefer ops with
 | false=>bad
 | true=>if q=true then
  if (decide (cutN E ops<=ops.size)&&regOk false ops (cutN E ops))=true then
   xOps P E bad (some false) ops (ops.toList.take (cutN E ops)) s fun s1=>xTail P E bad ops (cutN E ops) (cutN E ops) (ops.toList.drop (cutN E ops)) s1 K
  else if (decide (cutE E ops<=ops.size)&&regOk false ops (cutE E ops))=true then
   xOps P E bad none ops (ops.toList.take (cutE E ops)) s fun s1=>xTail P E bad ops (cutE E ops) (cutE E ops) (ops.toList.drop (cutE E ops)) s1 K
  else if (decide (freeN E ops.toList<=ops.size)&&regOk true ops (freeN E ops.toList))=true then
   xOps P E bad (some false) ops (ops.toList.take (freeN E ops.toList)) s fun s1=>match ptrsOk ops (freeN E ops.toList) s1 with
    | true=>xTail P E bad ops (freeN E ops.toList) (freeN E ops.toList) (ops.toList.drop (freeN E ops.toList)) s1 K
    | false=>bad
  else if (decide (cutA E ops<=ops.size)&&regOk true ops (cutA E ops))=true then
   xOps P E bad (some false) ops (ops.toList.take (cutA E ops)) s fun s1=>match ptrsOk ops (cutA E ops) s1 with
    | true=>xTail P E bad ops (cutA E ops) (cutA E ops) (ops.toList.drop (cutA E ops)) s1 K
    | false=>bad
  else bad
 else xOps P E bad (some true) ops ops.toList s K
def preS (s:St):List Oper->List Nat
 | []=>[]
 | o::_=>match o.op with
  | .move a=>match o.dst with
   | some d=>match E.ls (3000000+d) with
    | true=>oslTs s.tmps [a]
    | false=>match E.ls (5000000+d) with
     | true=>(List.range s.tmps.length).filter fun t=>E.ls (6000000+t)
     | false=>[]
   | none=>[]
  | _=>match o.dst with
   | some d=>match E.ls (5000000+d) with
    | true=>(List.range s.tmps.length).filter fun t=>E.ls (6000000+t)
    | false=>[]
   | none=>[]
def xReg2 (ops:Array Oper) (q:Bool) (s:St) (K:St->T):T:=match preS E s ops.toList with
 | []=>xReg1 P E bad ops q s K
 | t::r=>match stlAll s.heap s.tmps (t::r) with
  | (b,D,ids)=>br b (xI1 D fun D=>xIC (freeze s.heap ids) fun H1=>xReg1 P E bad ops q ⟨D,H1⟩ K) bad
def preC (s:St):List Oper->List (Nat×Nat×TypeId)
 | []=>[]
 | o::_=>match o.dst with
  | some d=>match E.ls (10000000+d) with
   | true=>((List.range s.tmps.length).filter fun t=>E.ls (11000000+t)).map fun t=>(t,0,(1073741824:Nat))
   | false=>[]
  | none=>[]
def xReg (ops:Array Oper) (q:Bool) (s:St) (K:St->T):T:=match preC E s ops.toList with
 | []=>xReg2 P E bad ops q s K
 | c::cs=>match convs (c::cs) s.tmps s.heap with
  | (D,H1)=>xI1 D fun D=>xIC H1 fun H1=>xReg2 P E bad ops q ⟨D,H1⟩ K
def xloop (R:St->(Exit->St->T)->T):Nat->St->(Exit->St->T)->T
 | 0,_,_=>bad
 | n+1,s,K=>R s fun e s'=>match e with
  | .normal=>xloop R n s' K
  | e=>K e s'
def xpiece (lp:Lp) (s:St) (K:Exit->St->T) (F:T):T:=match normS E.pin lp.conv lp.live s with
 | some (vals,H0)=>xI1 vals fun vals=>xIC H0 fun H0=>match lp.run vals H0 with
  | some (b,r)=>br (Nat.beq s.tmps.length E.nt) (br b (r.run fun e out H'=>xI1 (mkTs E.nt (lp.liveO.zip out)) fun ts=>xIC H' fun H''=>K e ⟨ts,H''⟩) bad) bad
  | none=>F
 | none=>F
def xpeel (lp:Lp) (R:St->(Exit->St->T)->T):Nat->St->(Exit->St->T)->T
 | 0,s,K=>xpiece E bad lp s K bad
 | n+1,s,K=>xpiece E bad lp s K (R s fun e s'=>match e with
  | .normal=>xpeel lp R n s' K
  | e=>K e s')
def xknow (c:Operand) (b:Bool) (s:St) (K:St->T):T:=match E.ls 7000000,c with
 | true,.tmp n=>setK s.tmps n (.bool b) fun ts=>K ⟨ts,s.heap⟩
 | _,_=>K s
def X:Code->St->(Exit->St->T)->T
 | .skip,s,K=>K .normal s
 | .region _ ops draw,s,K=>xReg P E bad ops draw s (K .normal)
 | .seq a b,s,K=>match isRng a with
  | true=>match E.lp (4000000+xIm a) with
   | some lp=>xpiece E bad lp s K bad
   | none=>bad
  | false=>X a s fun e s'=>match e with
   | .normal=>X b s' K
   | e=>K e s'
 | .cond c a b,s,K=>match E.lp (1000000+xIm a) with
  | some lp=>xpiece E bad lp s K bad
  | none=>match s.eval c with
   | .bool t=>br t (xknow E c true s fun s=>X a s K) (xknow E c false s fun s=>X b s K)
   | _=>bad
 | .block id c,s,K=>X c s fun e s'=>match e with
  | .exit id'=>if id'=id then K .normal s' else K (.exit id') s'
  | e=>K e s'
 | .loop c,s,K=>match E.lp (xIm c) with
  | some lp=>xpeel E bad lp (fun s K=>X c s K) 2 s K
  | none=>xloop bad (fun s K=>X c s K) E.fuel s K
 | .rangeFunc _ _ _ b,s,K=>match E.lp (3000000+xIm b) with
  | some lp=>xpiece E bad lp s K bad
  | none=>bad
 | .exit id,s,K=>K (.exit id) s
 | .ret,s,K=>K .ret s
 | _,_,_=>bad
end exec
section sound
variable {T : Type} {P : Program} {Inv : IV} {E : Env} {bad : T} {good : T -> Prop}
def xwn {c:Operand} {b:Bool} {s:St} (h:s.eval c=.bool b) (K:St->T):xknow E c b s K=K s:=by
 unfold xknow;split
 . rename_i n _;rw [xlA];have h:s.tmps.getD n .top=.bool b:=h;have e:s.tmps.set n (.bool b)=s.tmps:=by
    rcases zK n s.tmps.length with g|g
    . rw [<-h];refine List.ext_getElem (by simp) fun i h1 h2=>?_
      rw [List.getElem_set];split
      . rename_i e;subst e;rw [z7,zf h2,zi]
      . rfl
    . exact List.set_eq_of_length_le g
   rw [e]
 . rfl
def xbi (q:¬ good bad) {t:Bool} {a:T} (h:good (br t a bad)):t=true/\good a:=by
 cases t with
 | true=>exact ⟨rfl,h⟩
 | false=>exact (q h).elim
def xqG (q:¬ good bad) {D:Bool} {o:Oper} {s:St} {K:St->T} (h:good (xplain P E bad D o s K)) :
  if isImp o.op=true then D=true/\istep P o s (fun s'=>good (K s')) else fstep P o s (fun s'=>good (K s')):=by
 unfold xplain at h;split
 . rename_i hi;rw [if_pos hi] at h;split at h
   case isFalse=>exact (q h).elim
   rename_i J;refine ⟨J,?_⟩;split at h
   . rename_i b O b1 x y hx;obtain ⟨rfl,h⟩:=xbi q h;obtain ⟨f1,f2⟩:=xzg hx;unfold istep;cases O with
     | true =>
      have h:good (br b1 (force x fun x'=>putK s.tmps o.dst x' fun ts=>K ⟨ts,s.heap⟩) bad):=h
      obtain ⟨rfl,h⟩:=xbi q h;rw [xbU,xcj] at h;rw [f1 rfl rfl];exact h
     | false =>
      have h:good (force y fun x'=>putK s.tmps o.dst x' fun ts=>K ⟨ts,s.heap⟩):=h
      rw [xbU,xcj] at h;rw [f2 rfl];exact h
   split at h
   case h_2=>exact (q h).elim
   rename_i b x H hx;obtain ⟨rfl,h⟩:=xbi q h;rw [xbU,xcj,xbl] at h;unfold istep;rw [xt1 hx];exact h
 . rename_i hi;rw [if_neg hi] at h;split at h
   case h_2=>exact (q h).elim
   rename_i b x nb hx;obtain ⟨rfl,h⟩:=xbi q h;rw [xbU,xcj,xbl] at h;unfold fstep;rw [xtY hx];exact h
def xrz (q:¬ good bad) (J:xH8 P Inv E) {o:Oper} {c:Call} {s:St} {K:St->T} (h:good (xcall E bad o c s K)):CallF P Inv s c o.dst (fun s'=>good (K s')):=by
 unfold xcall at h;split at h
 case h_2=>exact (q h).elim
 rename_i g args D;split at h
 case h_2=>exact (q h).elim
 rename_i b O hm;have ⟨e1,h1⟩:=xbi q h;clear h;subst e1;rw [xbb] at h1;split at h1
 . unfold xfresh at h1;split at h1
   case h_2=>exact (q h1).elim
   rename_i b2 z v off k bx hr;obtain ⟨e2,h⟩:=xbi q h1;clear h1;subst e2;obtain ⟨e3,h1⟩:=xbi q h;clear h;rw [xcj,xbl,<-xsN hm] at h1;simp only [zg,Bool.not_eq_true',Nat.beq_eq] at e3;obtain ⟨rfl,rfl,e3⟩:=e3;exact xy3 D (xgX (xj4 xIs) hm) (J.2 _ _ _ _ _ hr) e3.1 e3.2 h1
 split at h1
 case h_2=>exact (q h1).elim
 rename_i b2 r hr;have ⟨e2,h⟩:=xbi q h1;clear h1;subst e2;rw [xbU,xcj,xbl,xAj hm] at h;exact xy2 D (xgX (xj4 xIs) hm) (J.1 _ _ _ hr) h
def xDy {s:St} {c:Call} {d:Option Tmp} {K:St->Prop} (h:CallF P Inv s c d K):CallK P Inv s c d K:=by
 obtain ⟨s',h1,h2⟩:=h;exact ⟨s',.inl h1,h2⟩
def xpJ (q:¬ good bad) (O:xH8 P Inv E) {o:Oper} {c:Call} {s:St} {K:St->T} (h:good (xcallM E bad o c s K)):∃ s',OpI0 P Inv s ⟨o.dst,.call c,0, "",#[],none⟩ s'/\good (K s'):=by
 unfold xcallM at h;split at h
 case h_2=>exact (q h).elim
 rename_i g args J;simp only at h;generalize gather s.heap 1000 (refsOf.refsL args) []=ids at h;split at h
 case h_2=>exact (q h).elim
 rename_i Q;split at h
 case h_2=>exact (q h).elim
 rename_i H0 D;rw [xbb,xbl] at h;split at h
 case h_2=>exact (q h).elim
 rename_i b r0 H0' hr;obtain ⟨rfl,h⟩:=xbi q h;rw [xbU,xcj,xbl] at h;exact ⟨_,.inr (.inl ⟨c,g,args,ids,H0,r0,H0',rfl,J,Q,D,O.2 _ _ _ _ _ hr,rfl⟩),h⟩
def xwm (q:¬ good bad) (D:xH8 P Inv E) {o:Oper} {c:Call} {s:St} {K:St->T} (h:good (xcallU E bad o c s K)):CallK P Inv s c o.dst (fun s'=>good (K s')):=by
 unfold xcallU at h;split at h
 case h_2=>exact (q h).elim
 split at h
 . rename_i n hn;split at h
   case h_2=>exact (q h).elim
   rename_i bx hb;split at h
   case h_2=>exact (q h).elim
   rename_i hC;obtain ⟨J,h⟩:=xbi q h;rw [xbl] at h;obtain ⟨s',h1,h2⟩:=xpJ q D h;simp only [zg,Bool.not_eq_true'] at hC;exact ⟨s',.inr (.inr (.inl ⟨_,⟨n,bx,hb,hC.1,hC.2,J,rfl⟩,h1⟩)),h2⟩
 . obtain ⟨s',h1,h2⟩:=xpJ q D h;exact ⟨s',.inr (.inl h1),h2⟩
def xG2 (q:¬ good bad) (D:xH8 P Inv E) {o:Oper} {s:St} {K:St->T} (h:good (xop P E bad true o s K)):stepA P Inv o s (fun s'=>good (K s')):=by
 have plain:good (xplain P E bad true o s K)->(if isImp o.op=true then istep P o s (fun s'=>good (K s')) else fstep P o s (fun s'=>good (K s'))):=fun h=>by
  have:=xqG q h;split at this<;>rename_i hi
  . rw [if_pos hi];exact this.2
  . rw [if_neg hi];exact this
 unfold xop at h;unfold stepA;split at h
 . rename_i c a b ho;split at h
   case h_2=>exact (q h).elim
   rename_i t ht;simp only [ho,ht];rw [xbU,xbU,xcj,xcj] at h;cases t with
   | true=>exact xtL (by simpa only [br] using h)
   | false=>exact xsh (by simpa only [br] using h)
 . rename_i c ho;split at h
   . rename_i f hf;simp only [ho,hf];split at h
     . exact xwm q D h
     . exact xDy (xrz q D h)
   . rename_i hne;have:=plain h;simp only [ho] at this |-;cases hc:c.callee<;>first|exact (hne _ hc).elim|exact this
 . rename_i h1 h2;have:=plain h;cases ho:o.op<;>first|exact (h1 _ _ _ ho).elim|exact (h2 _ ho).elim|exact this|(rw [ho] at this;exact this)
def xDb (q:¬ good bad) (D:xH8 P Inv E) {o:Oper} {s:St} {K:St->T} (h:good (xop P E bad false o s K)):stepF P Inv o s (fun s'=>good (K s')):=by
 have plain:good (xplain P E bad false o s K)->fstep P o s (fun s'=>good (K s')):=fun h=>by
  have:=xqG q h;split at this<;>rename_i hi
  . exact absurd this.1 (by simp)
  . exact this
 unfold xop at h;unfold stepF;split at h
 . rename_i c a b ho;split at h
   case h_2=>exact (q h).elim
   rename_i t ht;simp only [ho,ht];rw [xbU,xbU,xcj,xcj] at h;cases t with
   | true=>exact xtL (by simpa only [br] using h)
   | false=>exact xsh (by simpa only [br] using h)
 . rename_i c ho;split at h
   . rename_i f hf;simp only [ho,hf];split at h
     . exact (q h).elim
     . exact xrz q D h
   . rename_i hne;have:=plain h;simp only [ho] at this |-;cases hc:c.callee<;>first|exact (hne _ hc).elim|exact this
 . rename_i h1 h2;have:=plain h;cases ho:o.op<;>first|exact (h1 _ _ _ ho).elim|exact (h2 _ ho).elim|exact this|(rw [ho] at this;exact this)
def xlP {H:List Box} {q:List AV}:∀ {tl:List Nat} {ts:List AV} {ids:List Nat},stlAll H q tl=(true,ts,ids)->ts.length=q.length /\
  ∀ t,ts.getD t .top=q.getD t .top\/(resolve H xIs (q.getD t .top)=some (ts.getD t .top)/\∀ id,id∈reach H xIs (q.getD t .top)->id∈ids)
 | [],ts,ids,h=>by
  simp only [stlAll,zb,true_and] at h;obtain ⟨rfl,rfl⟩:=h;exact ⟨rfl,fun t=>.inl rfl⟩
 | t::r,ts,ids,h=>by
  unfold stlAll at h;split at h;rename_i b D Q h1;split at h;rename_i b' y V h2;simp only [zb,zg] at h;obtain ⟨⟨rfl,rfl⟩,rfl,rfl⟩:=h;obtain ⟨e1,e2⟩:=xlP h1;refine ⟨by rw [y8,e1],fun k=>?_⟩
  by_cases hk:k=t/\t<D.length
  . obtain ⟨rfl,hl⟩:=hk;rw [xcc hl];unfold stlV at h2;split at h2
    . rename_i id ver off len hx;split at h2
      . rename_i b y0 hr;simp only [zb] at h2;obtain ⟨rfl,rfl,rfl⟩:=h2;rw [hx];refine .inr ⟨xj4 xIs _ _ hr,fun i hi=>?_⟩
        rw [xlJ xIs _ _ hr] at hi;exact List.mem_append_left _ hi
      . simp at h2
    . rename_i id ver off len hx;split at h2
      . rename_i b y0 hr;simp only [zb] at h2;obtain ⟨rfl,rfl,rfl⟩:=h2;rw [hx];refine .inr ⟨xj4 xIs _ _ hr,fun i hi=>?_⟩
        rw [xlJ xIs _ _ hr] at hi;exact List.mem_append_left _ hi
      . simp at h2
    . simp only [zb,true_and] at h2;exact .inl h2.1.symm
  . have:(D.set t y).getD k .top=D.getD k .top:=by
     by_cases J:k=t
     . subst J;rw [List.set_eq_of_length_le (by omega)]
     . exact xcd (fun e=>J e.symm)
    rw [this];rcases e2 k with h|⟨h,h'⟩
    . exact .inl h
    . exact .inr ⟨h,fun id O=>List.mem_append_right _ (h' id O)⟩
def xzR (q:¬ good bad) {tl:List Nat} {o:Oper} {s:St} {K:St->T} (h:good (xset P E bad tl o s K)):∃ s',OpA P Inv s o s'/\good (K s'):=by
 unfold xset at h;split at h;rename_i b J ids D;have ⟨hb,h1⟩:=xbi q h;clear h;subst hb;rw [xbb,xbl] at h1;split at h1
 . split at h1
   case h_2=>exact (q h1).elim
   rename_i b2 x H2 hx;have ⟨hb,h⟩:=xbi q h1;clear h1;subst hb;rw [xbU,xcj,xbl] at h;obtain ⟨e1,e2⟩:=xlP D;exact ⟨_,.inr (.inr (.inr ⟨⟨J,freeze s.heap ids⟩,x,H2,⟨ids,rfl,e1,e2⟩,xt1 hx,rfl⟩)),h⟩
 split at h1
 case h_2=>exact (q h1).elim
 rename_i b2 x nb hx;have ⟨hb,h⟩:=xbi q h1;clear h1;subst hb;rw [xbU,xcj,xbl] at h;obtain ⟨e1,e2⟩:=xlP D;exact ⟨_,.inr (.inl (.inr (.inr ⟨⟨J,freeze s.heap ids⟩,x,nb,⟨ids,rfl,e1,e2⟩,xtY hx,rfl⟩))),h⟩
def xs7 (q:¬ good bad) {o:Oper} {s:St} {K:St->T} (h:good (xfrz bad o s K)):∃ s',OpF P Inv s o s'/\good (K s'):=by
 unfold xfrz at h;split at h
 case h_2=>exact (q h).elim
 rename_i b x hx;obtain ⟨hb,h'⟩:=xbi q h;subst hb;rw [xbU,xcj] at h';exact ⟨_,.inl ⟨x,none,.inr (xzd hx),rfl⟩,by simpa using h'⟩
def xwo (q:¬ good bad) (D:xH8 P Inv E) {o:Oper} {s:St} {K:St->T} (h:good (xopS P E bad true o s K)):∃ s',OpA P Inv s o s'/\good (K s'):=by
 unfold xopS at h;split at h
 . split at h
   . obtain ⟨s',h1,h2⟩:=xs7 (P:=P) (Inv:=Inv) q h;exact ⟨s',.inl h1,h2⟩
   . exact xwT (xG2 q D h)
 . exact xzR q h
def xGa (q:¬ good bad) (D:xH8 P Inv E) {o:Oper} {s:St} {K:St->T} (h:good (xopS P E bad false o s K)):∃ s',OpF P Inv s o s'/\good (K s'):=by
 unfold xopS at h;split at h
 . split at h
   . exact xs7 q h
   . exact xrs (xDb q D h)
 . exact (q h).elim
def xBG (q:¬ good bad) (D:xH8 P Inv E) {o:Oper} {s:St} {K:St->T} (h:good (xopE P E bad o s K)):∃ s',OpF P Inv s o s'/\good (K s'):=by
 unfold xopE at h;split at h
 . rename_i b x nb hx;have ⟨hb,h⟩:=xbi q h;subst hb;rw [xbU,xcj,xbl] at h;exact ⟨_,.inl ⟨x,nb,.inr (xze hx),rfl⟩,h⟩
 . exact xrs (xDb q D h)
def xF9 (q:¬ good bad) (D:xH8 P Inv E) {o:Oper} {s:St} {K:St->T} (h:good (xopL P E bad o s K)):∃ s',OpF P Inv s o s'/\good (K s'):=by
 unfold xopL at h;split at h
 . rename_i b O b1 x y hx;obtain ⟨rfl,h⟩:=xbi q h;obtain ⟨f1,f2⟩:=xzh (nid:=s.heap.length) hx;cases O with
   | true =>
    have h2:good (br b1 (force x fun x'=>putK s.tmps o.dst x' fun ts=>K ⟨ts,s.heap⟩) bad):=h
    obtain ⟨J,h3⟩:=xbi q h2;rw [xbU,xcj] at h3;exact ⟨_,.inl ⟨x,none,.inr (f1 rfl J),rfl⟩,by simpa using h3⟩
   | false =>
    have h2:good (force y fun x'=>putK s.tmps o.dst x' fun ts=>K ⟨ts,s.heap⟩):=h
    rw [xbU,xcj] at h2;exact ⟨_,.inl ⟨y,none,.inr (f2 rfl),rfl⟩,by simpa using h2⟩
 . split at h
   . exact xBG q D h
   . exact xGa q D h
def xgc (O:¬ good bad) {D:Option Bool} {Step:St->Oper->St->Prop} (q:∀ o s (K:St->T),good (xopM P E bad D o s K)->∃ s',Step s o s'/\good (K s')) {ops:Array Oper} :
  ∀ (l:List Oper) (s:St) (K:St->T),good (xOps P E bad D ops l s K)->∃ s',Path Step ops l s s'/\good (K s')
 | [],s,K,h=>⟨s,.nil s,h⟩
 | o::rest,s,K,h=>by
  have run:∀ s:St,xIj ops s.tmps o=some true->good (xopM P E bad D o s fun s'=>xOps P E bad D ops rest s' K)->∃ s',Path Step ops (o::rest) s s'/\good (K s'):=fun s hg h=>by
   obtain ⟨s1,h1,h2⟩:=q _ _ _ h;obtain ⟨s2,h3,h4⟩:=xgc O q rest s1 K h2;exact ⟨s2,.run hg h1 h3,h4⟩
  have skip:∀ s:St,xIj ops s.tmps o=some false->good (putK s.tmps o.dst (.tuple []) fun ts=>xOps P E bad D ops rest ⟨ts,s.heap⟩ K)->∃ s',Path Step ops (o::rest) s s'/\good (K s'):=fun s hg h=>by
   rw [xcj] at h;obtain ⟨s2,h3,h4⟩:=xgc O q rest _ K h;exact ⟨s2,.skip hg h3,h4⟩
  unfold xOps xguard at h;split at h
  . rename_i hg;exact run s (by simp [xIj,hg]) h
  . rename_i j J hg;split at h
    . rename_i hd;refine skip s ?_ h;have:(ops[j]?).bind (·.dst)=none:=hd;simp [xIj,hg,ayield,this]
    . rename_i d hd;have hd':(ops[j]?).bind (·.dst)=some d:=hd;split at h
      . rename_i ht;refine skip s ?_ h;simp [xIj,hg,ayield,hd',ht]
      . rename_i t ht;have Q:xIj ops s.tmps o=some (t==J):=by simp [xIj,hg,ayield,hd',ht]
        cases t with
        | true =>
         simp only [br] at h;rw [xlA,xpj ht] at h;cases J with
         | true=>exact run s Q h
         | false=>exact skip s Q h
        | false =>
         simp only [br] at h;rw [xlA,xpj ht] at h;cases J with
         | true=>exact skip s Q h
         | false=>exact run s Q h
      . rename_i vs ht;refine skip s ?_ h;simp [xIj,hg,ayield,hd',ht]
      . exact (O h).elim
def xgj (q:¬ good bad) (Q:xH8 P Inv E) {ops:Array Oper} {m:Nat} :
  ∀ (l:List Oper) (k:Nat) (s:St) (K:St->T),good (xTail P E bad ops m k l s K)->∃ s',TPath P Inv ops m k l s s'/\good (K s')
 | [],k,s,K,h=>⟨s,.nil k s,h⟩
 | o::rest,k,s,K,h=>by
  have J:∀ (s:St) (K:St->T),good (xopS P E bad true o s K)->∃ s',OpA P Inv s o s'/\good (K s'):=fun s K h=>xwo q Q h
  unfold xTail at h;split at h
  . rename_i hml;have run:∀ s:St,xIj ops s.tmps o=some true->good (xopS P E bad true o s fun s'=>xTail P E bad ops m (k+1) rest s' K)->∃ s',TPath P Inv ops m k (o::rest) s s'/\good (K s'):=fun s hg h=>by
     obtain ⟨s1,h1,h2⟩:=J _ _ h;obtain ⟨s2,h3,h4⟩:=xgj q Q rest (k+1) s1 K h2;exact ⟨s2,.run [] hml.symm hg h1 h3,h4⟩
    have skip:∀ s:St,xIj ops s.tmps o=some false->good (putK s.tmps o.dst (.tuple []) fun ts=>xTail P E bad ops m (k+1) rest ⟨ts,s.heap⟩ K)->∃ s',TPath P Inv ops m k (o::rest) s s'/\good (K s'):=fun s hg h=>by
     rw [xcj] at h;obtain ⟨s2,h3,h4⟩:=xgj q Q rest (k+1) _ K h;exact ⟨s2,.skip [] hml.symm hg h3,h4⟩
    unfold xguard at h;split at h
    . rename_i hg;exact run s (by simp [xIj,hg]) h
    . rename_i j D hg;split at h
      . rename_i hd;refine skip s ?_ h;have:(ops[j]?).bind (·.dst)=none:=hd;simp [xIj,hg,ayield,this]
      . rename_i d hd;have hd':(ops[j]?).bind (·.dst)=some d:=hd;split at h
        . rename_i ht;refine skip s ?_ h;simp [xIj,hg,ayield,hd',ht]
        . rename_i t ht;have O:xIj ops s.tmps o=some (t==D):=by simp [xIj,hg,ayield,hd',ht]
          cases t with
          | true =>
           simp only [br] at h;rw [xlA,xpj ht] at h;cases D with
           | true=>exact run s O h
           | false=>exact skip s O h
          | false =>
           simp only [br] at h;rw [xlA,xpj ht] at h;cases D with
           | true=>exact skip s O h
           | false=>exact run s O h
        . rename_i vs ht;refine skip s ?_ h;simp [xIj,hg,ayield,hd',ht]
        . exact (q h).elim
  . rename_i d ds hml;split at h
    case h_2=>exact (q h).elim
    rename_i hg;rw [xbb] at h;obtain ⟨s1,h1,h2⟩:=J _ _ h;rw [xbb] at h2;obtain ⟨s2,h3,h4⟩:=xgj q Q rest (k+1) _ K h2;exact ⟨s2,.run (d::ds) hml.symm (by simp [xIj,hg]) h1 h3,h4⟩
def xrw (V:P.follows .mixedOrders=true) (J:InvOk Inv) (q:¬ good bad) (D:xH8 P Inv E) {id:Nat} {ops:Array Oper} {Q:Bool} {s:St} {K:Exit->St->T} (h:good (xReg1 P E bad ops Q s (K .normal))):Does P Inv (.region id ops Q) (fun e s'=>good (K e s')) s:=by
 have hA:∀ o s (K:St->T),good (xopM P E bad (some true) o s K)->∃ s',OpA P Inv s o s'/\good (K s'):=fun o s K h=>xwo q D h
 have hF:∀ o s (K:St->T),good (xopM P E bad (some false) o s K)->∃ s',OpF P Inv s o s'/\good (K s'):=fun o s K h=>xF9 q D h
 have hE:∀ o s (K:St->T),good (xopM P E bad none o s K)->∃ s',OpF P Inv s o s'/\good (K s'):=fun o s K h=>xBG q D h
 unfold xReg1 at h;split at h
 case h_1=>exact (q h).elim
 rename_i O;cases Q with
 | false =>
  simp only [zU,if_false] at h;obtain ⟨s',h1,h2⟩:=xgc q hA _ _ _ h;exact xpi J O h1 h2
 | true =>
  simp only [if_true] at h;split at h
  . rename_i hc;simp only [zg,zm] at hc;obtain ⟨s1,h1,h⟩:=xgc q hF _ _ _ h;obtain ⟨s2,h2,h⟩:=xgj q D _ _ _ _ h;exact xph V J _ O hc.2 hc.1 h1 h2 xst h
  . split at h
    . rename_i hc;simp only [zg,zm] at hc;obtain ⟨s1,h1,h⟩:=xgc q hE _ _ _ h;obtain ⟨s2,h2,h⟩:=xgj q D _ _ _ _ h;exact xph V J _ O hc.2 hc.1 h1 h2 xst h
    . split at h
      . rename_i hc;simp only [zg,zm] at hc;obtain ⟨s1,h1,h⟩:=xgc q hF _ _ _ h;split at h
        case h_2=>exact (q h).elim
        rename_i W;obtain ⟨s2,h2,h⟩:=xgj q D _ _ _ _ h;exact xph V J _ O hc.2 hc.1 h1 h2 (xrl W) h
      . split at h
        case isFalse=>exact (q h).elim
        rename_i hc;simp only [zg,zm] at hc;obtain ⟨s1,h1,h⟩:=xgc q hF _ _ _ h;split at h
        case h_2=>exact (q h).elim
        rename_i W;obtain ⟨s2,h2,h⟩:=xgj q D _ _ _ _ h;exact xph V J _ O hc.2 hc.1 h1 h2 (xrl W) h
def xzK {c:Code} {Q:Exit->St->Prop} {s s1:St} (D:Settled s s1) (h:Does P Inv c Q s1):Does P Inv c Q s:=fun w0 A0 w A M a Qc hI hp hs hQ ro q=>by
 obtain ⟨A1,h1,_⟩:=hs.settle D;exact h w0 A0 w A1 M a Qc hI hp h1 hQ ro q
def xry (O:P.follows .mixedOrders=true) (J:InvOk Inv) (q:¬ good bad) (Q:xH8 P Inv E) {id:Nat} {ops:Array Oper} {D:Bool} {s:St} {K:Exit->St->T} (h:good (xReg2 P E bad ops D s (K .normal))):Does P Inv (.region id ops D) (fun e s'=>good (K e s')) s:=by
 unfold xReg2 at h;split at h
 . exact xrw O J q Q h
 . split at h;rename_i b W ids V;have ⟨hb,h1⟩:=xbi q h;subst hb;rw [xbb,xbl] at h1;obtain ⟨e1,e2⟩:=xlP V;exact xzK ⟨ids,rfl,e1,e2⟩ (xrw O J q Q h1)
def xzQ (O:P.follows .mixedOrders=true) (J:InvOk Inv) (q:¬ good bad) (Q:xH8 P Inv E) {id:Nat} {ops:Array Oper} {D:Bool} {s:St} {K:Exit->St->T} (h:good (xReg P E bad ops D s (K .normal))):Does P Inv (.region id ops D) (fun e s'=>good (K e s')) s:=by
 unfold xReg at h;split at h
 . exact xry O J q Q h
 . rename_i c cs _;split at h;rename_i V H1 hc;rw [xbb,xbl] at h;refine xnK (s':=⟨V,H1⟩) (fun w0 A0 w A M a _ hs=>?_) (xry O J q Q h)
   obtain ⟨A1,M1,h1⟩:=SR.convs (c::cs) hs;rw [hc] at h1;exact ⟨A1,M1,h1⟩
def xwx (q:¬ good bad) {c:Code} {R:St->(Exit->St->T)->T} (hR:∀ s (K:Exit->St->T),good (R s K)->Does P Inv c (fun e s'=>good (K e s')) s) {n:Nat} {s:St} {K:Exit->St->T} (h:good (xloop bad R n s K)):Does P Inv (.loop c) (fun e s'=>good (K e s')) s :=
 xBp (fun n s=>good (xloop bad R n s K)) (Weak.refl _ _) h fun n s hs=>by
  cases n with
  | zero=>exact (q hs).elim
  | succ n =>
   refine xdw (hR s _ hs) fun e s' h=>?_
   cases e with
   | normal=>exact ⟨n,s',Nat.lt_succ_self n,Weak.refl _ _,h⟩
   | _=>exact h
def xqF (J:Inv.pin=E.pin) (q:¬ good bad) {lp:Lp} {s:St} {K:Exit->St->T} {F:T} (h:good (xpiece E bad lp s K F)) :
  good F\/∃ vals H0 r,lp.run vals H0=some (true,r)/\Weak Inv.pin s ⟨mkTs E.nt (lp.live.zip vals),H0⟩/\good (K r.eval.1 ⟨mkTs E.nt (lp.liveO.zip r.eval.2.1),r.eval.2.2⟩):=by
 unfold xpiece at h;split at h
 case h_2=>exact .inl h
 rename_i vals H0 O;rw [xbb,xbl] at h;split at h
 case h_2=>exact .inl h
 rename_i b r Q;have ⟨h0,h1⟩:=xbi q h;clear h;have ⟨hb,h⟩:=xbi q h1;clear h1;subst hb;have h:=LR.run_good h;rw [xbb,xbl] at h;have D:=zh h0;have hw:=xkP O;rw [<-J,D] at hw;exact .inr ⟨vals,H0,r,Q,hw,h⟩
def xnC (D:Inv.pin=E.pin) (q:¬ good bad) {d:Code} {lp:Lp} (J:PieceOk P Inv E.nt d lp) {s:St} {K:Exit->St->T} (h:good (xpiece E bad lp s K bad)):Does P Inv d (fun e s'=>good (K e s')) s:=by
 rcases xqF D q h with h|⟨vals,H0,r,h1,h2,h3⟩
 . exact (q h).elim
 . exact xnK h2 (xdw (J _ _ _ h1) fun e1 s1 ⟨g1,g2⟩=>by rw [g1,g2];exact h3)
def xrA (D:Inv.pin=E.pin) (q:¬ good bad) {c:Code} {lp:Lp} (J:LoopOk P Inv E.nt c lp) {R:St->(Exit->St->T)->T} (hR:∀ s (K:Exit->St->T),good (R s K)->Does P Inv c (fun e s'=>good (K e s')) s) :
  ∀ (n:Nat) (s:St) (K:Exit->St->T),good (xpeel E bad lp R n s K)->DoesL P Inv c (fun e s'=>good (K e s')) s
 | 0,s,K,h=>by
  rcases xqF D q h with h|⟨vals,H0,r,h1,h2,h3⟩
  . exact (q h).elim
  . exact xsn h2 (xuv (J _ _ _ h1) fun e1 s1 ⟨g1,g2⟩=>by rw [g1,g2];exact h3)
 | n+1,s,K,h=>by
  rcases xqF D q h with h|⟨vals,H0,r,h1,h2,h3⟩
  . refine xzJ (xdw (hR s _ h) fun e s' h=>?_)
    cases e with
    | normal=>exact xrA D q J hR n s' K h
    | _=>exact h
  . exact xsn h2 (xuv (J _ _ _ h1) fun e1 s1 ⟨g1,g2⟩=>by rw [g1,g2];exact h3)
def xfe (O:P.follows .mixedOrders=true) (J:InvOk Inv) (D:Inv.pin=E.pin) (q:¬ good bad) (Q:xH8 P Inv E):∀ (c:Code) (s:St) (K:Exit->St->T),LoOk P Inv E c->good (X P E bad c s K)->Does P Inv c (fun e s'=>good (K e s')) s
 | .skip,s,K,_,h=>xCN h
 | .region id ops draw,s,K,_,h=>xzQ O J q Q h
 | .seq a b,s,K,hl,h=>by
  unfold X at h;split at h
  . rename_i hr;split at h
    . rename_i lp V;exact xnC D q (hl.2 (.seq a b) (by simp [xIn,hr]) lp V) h
    . exact (q h).elim
  . rename_i hr;exact xqQ (xdw (xfe O J D q Q a s _ (hl.sub (fun l hm=>by simp [xIr,hr,hm]) (fun l hm=>by simp [xIn,hr,hm])) h) fun e s' hq=>by
     cases e with
     | normal=>exact xfe O J D q Q b s' K (hl.sub (fun l hm=>by simp [xIr,hr,hm]) (fun l hm=>by simp [xIn,hr,hm])) hq
     | _=>exact hq)
 | .cond c a b,s,K,hl,h=>by
  unfold X at h;split at h
  . rename_i lp V;exact xnC D q (hl.2 (.cond c a b) (by simp [xIn]) lp V) h
  split at h
  case h_2=>exact (q h).elim
  rename_i t ht;refine xCL ht (fun e=>?_) (fun e=>?_)
  . subst e;change good (xknow E c true s fun s=>X P E bad a s K) at h
    rw [xwn ht] at h;exact xfe O J D q Q a s K (hl.sub (fun l hm=>by simp [xIr,hm]) (fun l hm=>by simp [xIn,hm])) h
  . subst e;change good (xknow E c false s fun s=>X P E bad b s K) at h
    rw [xwn ht] at h;exact xfe O J D q Q b s K (hl.sub (fun l hm=>by simp [xIr,hm]) (fun l hm=>by simp [xIn,hm])) h
 | .block id c,s,K,hl,h=>xBo (xdw (xfe O J D q Q c s _ (hl.sub (fun l hm=>by simpa [xIr] using hm) (fun l hm=>by simpa [xIn] using hm)) h) fun e s' hq=>by
  cases e with
  | exit id' =>
   simp only [blockQ];split
   . rename_i W;simp only [W,if_true] at hq;exact hq
   . rename_i W;simp only [W,if_false] at hq;exact hq
  | _=>exact hq)
 | .loop c,s,K,hl,h=>by
  unfold X at h;split at h
  . rename_i lp V;exact xyK (xrA D q (hl.1 c (by simp [xIr]) lp V) (fun s K h=>xfe O J D q Q c s K (hl.sub (fun l hm=>by simp [xIr,hm]) (fun l hm=>by simp [xIn,hm])) h) _ _ _ h)
  . exact xwx q (fun s K h=>xfe O J D q Q c s K (hl.sub (fun l hm=>by simp [xIr,hm]) (fun l hm=>by simp [xIn,hm])) h) h
 | .exit id,s,K,_,h=>xCM h
 | .ret,s,K,_,h=>xEe h
 | .rangeFunc g ps a b,s,K,hl,h=>by
  unfold X at h;split at h
  . rename_i lp V;exact xnC D q (hl.2 (.rangeFunc g ps a b) (by simp [xIn]) lp V) h
  . exact (q h).elim
 | .scope _,s,K,_,h=>(q (by simpa [X] using h)).elim
 | .label _,s,K,_,h=>(q (by simpa [X] using h)).elim
 | .goto _,s,K,_,h=>(q (by simpa [X] using h)).elim
 | .refuse _,s,K,_,h=>(q (by simpa [X] using h)).elim
end sound
def resValC (P:Program) (ls:TypeId->Bool) (s:St):ResultVar->Option (Bool×AV)
 | .tmp t=>some (true,s.tmps.getD t .top)
 | .cell a t=>match xH7 P t with
  | some ti=>loadAtC P ls t s.heap ti (s.tmps.getD a .top)
  | none=>none
def xqy {P:Program} {ls:TypeId->Bool} {s:St} {r:ResultVar} {x:AV} (hx:resValC P ls s r=some (true,x)):resVal P s r=some x:=by
 cases r with
 | tmp t=>simpa [resValC,resVal] using hx
 | cell a t =>
  simp only [resValC] at hx;simp only [resVal];split at hx
  case h_2=>simp at hx
  rename_i ti q;simp only [q];exact xqi hx
def resAllC (P:Program) (ls:TypeId->Bool) (s:St):List ResultVar->Option (Bool×List AV)
 | []=>some (true,[])
 | r::rs=>match resValC P ls s r with
  | some (b,x)=>match resC s.heap xIs x with
   | some (b',y)=>match resAllC P ls s rs with
    | some (b'',ys)=>some (b&&(b'&&b''),y::ys)
    | none=>none
   | none=>none
  | none=>none
def xnl {P:Program} {ls:TypeId->Bool} {s:St}:∀ {rs:List ResultVar} {ys:List AV},resAllC P ls s rs=some (true,ys)->resAll P s rs=some ys
 | [],ys,h=>by simp only [resAllC,z6,zb,true_and] at h;subst h;rfl
 | r::rs,ys,h=>by
  unfold resAllC at h;split at h
  case h_2=>simp at h
  rename_i b x hx;split at h
  case h_2=>simp at h
  rename_i b' y hy;split at h
  case h_2=>simp at h
  rename_i q zs hz;simp only [z6,zb,zg] at h;obtain ⟨⟨rfl,rfl,rfl⟩,rfl⟩:=h;unfold resAll;simp only [xqy hx,xnl hz,xj4 _ _ _ hy]
def finK (P:Program) (ls:TypeId->Bool) (rs:List ResultVar) (s:St):Option AV :=
 match resAllC P ls s rs with
 | some (b,xs)=>br b (xI1 xs fun ys=>some (xIp ys)) none
 | none=>none
def endK (P:Program) (ls:TypeId->Bool) (rs:List ResultVar):Exit->St->Option AV
 | .ret,s=>finK P ls rs s
 | .normal,s=>finK P ls rs s
 | _,_=>none
def XF (P:Program) (E:Env) (fn:Func) (c:Code) (args:List AV):Option AV :=
 xI1 (args++List.replicate (fn.ntmps - args.length) (.tuple [])) fun ts=>X P E none c ⟨ts,[]⟩ (endK P E.ls fn.results.toList)
def xzj {P:Program} {Inv:IV} {E:Env} (Q:P.follows .mixedOrders=true) (J:InvOk Inv) (O:Inv.pin=E.pin) (V:xH8 P Inv E) {f:FuncId} {fn:Func} {c:Code} {args:List AV} {r:AV} (hf:P.funcs[f]?=some fn) (hb:fn.body=some c) (q:(fn.name == "runtime.NumGoroutine")=false)
  (hl:LoOk P Inv E c) (h:XF P E fn c args=some r):Good P Inv f args r:=by
 refine xyp J hf hb q ?_;unfold XF at h;rw [xbb] at h;refine xdw (xfe (good:=fun t=>t=some r) Q J O (by simp) V c _ _ hl h) fun e s hq=>?_
 have D:∀ s,finK P E.ls fn.results.toList s=some r->resultOf P fn.results.toList s=some r:=fun s h=>by
  unfold finK at h;split at h
  case h_2=>simp at h
  rename_i b xs hx;obtain ⟨rfl,h⟩:=xbi (good:=fun t=>t=some r) (by simp) h
  rw [xbb] at h;unfold resultOf;rw [xnl hx];exact h
 cases e with
 | ret=>exact ⟨.inl rfl,D s hq⟩
 | normal=>exact ⟨.inr rfl,D s hq⟩
 | _=>simp [endK] at hq
def resAllM (P:Program) (s:St):List ResultVar->Option (List AV)
 | []=>some []
 | r::rs=>match resVal P s r with
  | some x=>match resAllM P s rs with
   | some xs=>some (x::xs)
   | none=>none
  | none=>none
def xro {P:Program} {w0 w:World} {A0:Cx} {A:Nat->Prop} {M:Id->Option MB} {s:St} {a:Act} (hs:SR w0 A0 w A M s a):∀ {rs:List ResultVar} {xs:List AV},resAllM P s rs=some xs ->
  ∃ vs,(rs.mapM (resF a.tmps)).run P w=.ok vs w/\RC w A M vs xs
 | [],xs,h=>by
  simp only [resAllM,z6] at h;subst h;exact ⟨[],by simp,rfl,by simp⟩
 | r::rs,xs,h=>by
  unfold resAllM at h;split at h
  case h_2=>simp at h
  rename_i x hx;split at h
  case h_2=>simp at h
  rename_i ys J;cases h;obtain ⟨v,hv,D⟩:=xsT hs hx;obtain ⟨vs,O,q⟩:=xro hs J;refine ⟨v::vs,?_,by simp [q.1],fun i hi=>?_⟩
  . rw [List.mapM_cons];simp only [Sem.run_bind,hv,O,Result.andThen_ok,Sem.run_pure]
  . cases i with
    | zero=>simpa using D
    | succ i=>have:=q.2 i (by simp at hi;omega);simpa using this
def xnm {P:Program} {w0 w:World} {A0:Cx} {A:Nat->Prop} {M:Id->Option MB} {s:St} {a:Act} (hs:SR w0 A0 w A M s a) {fn:Func} {xs:List AV} (h:resAllM P s fn.results.toList=some xs) :
  ∃ v,(results fn a.tmps).run P w=.ok v w/\Rel w A M v (xIp xs):=by
 obtain ⟨vs,D,q⟩:=xro (P:=P) hs h;refine ⟨if h:vs.toArray.size=1 then vs.toArray[0] else .tuple vs.toArray,?_,?_⟩
 . rw [xsU,Array.mapM_eq_mapM_toList];simp only [Sem.run_bind,Sem.run_map,D,Result.andThen_ok,Sem.run_pure]
 . have hl:=q.1;have hr:=q.2;match vs,xs,hl,hr with
   | [v],[x],_,hr=>simpa [xIp] using hr 0 (by simp)
   | [],[],_,_=>simpa [xIp] using Rel.tuple (w:=w) (A:=A) (M:=M) #[] [] rfl (by simp)
   | v1::v2::vs,x1::x2::xs,hl,hr =>
    have hne:¬ (v1::v2::vs).toArray.size=1:=by simp
    rw [dif_neg hne];simp only [xIp];refine .tuple _ _ (by simpa using hl) fun i hi=>?_
    rw [xfo];exact hr i hi
def xCj {P:Program} {Inv:IV} (ab:InvOk Inv) {f:FuncId} {fn:Func} {c:Code} {args:List AV} {r:AV} {H H':List Box} (hf:P.funcs[f]?=some fn) (hb:fn.body=some c) (O:(fn.name == "runtime.NumGoroutine")=false) (aa:H.length=Inv.pin)
  (h:Does P Inv c (fun e s=>(e=.ret\/e=.normal)/\∃ xs ids,resAllM P s fn.results.toList=some xs/\nodupB ids=true/\pinsOk Inv.pin 0 ids=true/\normH Inv.pin (normF Inv.pin ids s.heap) s.heap 0 ids=some H'/\ren (normF Inv.pin ids s.heap) (xIp xs)=r) ⟨args++List.replicate (fn.ntmps - args.length) (.tuple []),H⟩):GoodM P Inv f args H r H':=by
 refine ⟨⟨fn,hf,by rw [hb];rfl,O⟩,fun w0 w A M vs hI J hR D=>?_⟩
 refine callsIn_wide.1 (callsIn_of_wp_marks (F:=Fence.wide) (n:=0) hf hb trivial ?_);refine h w0 ⟨A,w,A,M,H.length,fun _=>False⟩ w A M _ _ hI (by simp only [];omega) ⟨J,fun _ _=>Iff.rfl,?_,fun t ht=>?_,hR,DefOk.nil,Ev.refl (C:=⟨A,w,A,M,H.length,fun _=>False⟩)⟩ ?_ none (fun _=>rfl)
 . simp [D.1]
 . simp only [z8,List.length_replicate] at ht;have hl:=D.1;by_cases Q:t<args.length
   . have e1:(vs.toArray++Array.replicate (fn.ntmps - vs.toArray.size) undef).getD t undef=vs.getD t undef:=by
      have:t<vs.length:=by omega
      simp [z7,Array.getElem?_append,this]
     have e2:(args++List.replicate (fn.ntmps - args.length) (AV.tuple [])).getD t .top=args.getD t .top:=by
      simp [z7,zQ,Q]
     rw [e1,e2];exact D.2 t Q
   . have h1:¬ t<vs.length:=by omega
     have e1:(vs.toArray++Array.replicate (fn.ntmps - vs.toArray.size) undef).getD t undef=undef:=by
      have h2:t - vs.length<fn.ntmps - vs.length:=by omega
      simp [Array.getElem?_append,h1,h2]
     have e2:(args++List.replicate (fn.ntmps - args.length) (AV.tuple [])).getD t .top=.tuple []:=by
      have h2:t - args.length<fn.ntmps - args.length:=by omega
      simp [z7,zQ,Q,h2]
     rw [e1,e2];exact .tuple #[] [] rfl (by simp)
 . rintro e s' a' w' ⟨he,xs,ids,hx,W,Z,Y,rfl⟩ ⟨A',M',q⟩;have:LeavesInM Fence.wide 0 P fn a'.tmps (fun e w'=>∃ v A' M',e=.returned v/\Below w0.heap.size w0 w'/\(∀ b,b<w0.heap.size->(A' b↔A b))/\Ev ⟨A,w,A,M,H.length,fun _=>False⟩ w' A' M'/\HR w' A' M' w0.heap.size H'/\Rel w' A' M' v (ren (normF Inv.pin ids s'.heap) (xIp xs))) a'.defers .returning w':=xnT (fun _ h=>h) q fun w' q=>by
    obtain ⟨v,hv,V⟩:=xnm (P:=P) q hx;obtain ⟨M2,g1,g2,g3,g4⟩:=q.heap.norm W Z Y;exact ⟨v,hv,v,A',M2,rfl,q.base,q.outer,q.ev.norm (by simp only [];omega) g3 g4,g1,V.ren g2⟩
   rcases he with rfl|rfl<;>exact this
def resAllMC (P:Program) (ls:TypeId->Bool) (s:St):List ResultVar->Option (Bool×List AV)
 | []=>some (true,[])
 | r::rs=>match resValC P ls s r with
  | some (b,x)=>match resAllMC P ls s rs with
   | some (b',xs)=>some (b&&b',x::xs)
   | none=>none
  | none=>none
def xpB {P:Program} {ls:TypeId->Bool} {s:St}:∀ {rs:List ResultVar} {ys:List AV},resAllMC P ls s rs=some (true,ys)->resAllM P s rs=some ys
 | [],ys,h=>by simp only [resAllMC,z6,zb,true_and] at h;subst h;rfl
 | r::rs,ys,h=>by
  unfold resAllMC at h;split at h
  case h_2=>simp at h
  rename_i b x hx;split at h
  case h_2=>simp at h
  rename_i b' zs hz;simp only [z6,zb,zg] at h;obtain ⟨⟨rfl,rfl⟩,rfl⟩:=h;unfold resAllM;simp only [xqy hx,xpB hz]
def finM (P:Program) (pin:Nat) (ls:TypeId->Bool) (rs:List ResultVar) (s:St):Option (AV×List Box) :=
 match resAllMC P ls s rs with
 | some (b,xs)=>br b (match nodupB (gather s.heap 1000 (List.range pin++refsOf.refsL xs) [])&&pinsOk pin 0 (gather s.heap 1000 (List.range pin++refsOf.refsL xs) []) with
  | true=>match normH pin (normF pin (gather s.heap 1000 (List.range pin++refsOf.refsL xs) []) s.heap) s.heap 0 (gather s.heap 1000 (List.range pin++refsOf.refsL xs) []) with
   | some H'=>force (ren (normF pin (gather s.heap 1000 (List.range pin++refsOf.refsL xs) []) s.heap) (xIp xs)) fun r=>xIC H' fun H'=>some (r,H')
   | none=>none
  | false=>none) none
 | none=>none
def endM (P:Program) (pin:Nat) (ls:TypeId->Bool) (rs:List ResultVar):Exit->St->Option (AV×List Box)
 | .ret,s=>finM P pin ls rs s
 | .normal,s=>finM P pin ls rs s
 | _,_=>none
def XFM (P:Program) (E:Env) (fn:Func) (c:Code) (args:List AV) (H:List Box):Option (AV×List Box) :=
 xI1 (args++List.replicate (fn.ntmps - args.length) (.tuple [])) fun ts=>X P E none c ⟨ts,H⟩ (endM P E.pin E.ls fn.results.toList)
def xvI {P:Program} {Inv:IV} {E:Env} (Q:P.follows .mixedOrders=true) (O:InvOk Inv) (q:Inv.pin=E.pin) (W:xH8 P Inv E) {f:FuncId} {fn:Func} {c:Code} {args:List AV} {r:AV} {H H':List Box} (hH:H.length=E.pin) (hf:P.funcs[f]?=some fn) (hb:fn.body=some c) (D:(fn.name == "runtime.NumGoroutine")=false)
  (hl:LoOk P Inv E c) (h:XFM P E fn c args H=some (r,H')):GoodM P Inv f args H r H':=by
 refine xCj O hf hb D (by rw [hH,q]) ?_
 unfold XFM at h;rw [xbb] at h;refine xdw (xfe (good:=fun t=>t=some (r,H')) Q O q (by simp) W c _ _ hl h) fun e s hq=>?_
 have J:∀ s,finM P E.pin E.ls fn.results.toList s=some (r,H')->∃ xs ids,resAllM P s fn.results.toList=some xs/\nodupB ids=true/\pinsOk Inv.pin 0 ids=true/\normH Inv.pin (normF Inv.pin ids s.heap) s.heap 0 ids=some H'/\ren (normF Inv.pin ids s.heap) (xIp xs)=r:=fun s h=>by
  unfold finM at h;split at h
  case h_2=>simp at h
  rename_i b xs hx;have ⟨Y,h1⟩:=xbi (good:=fun t=>t=some (r,H')) (by simp) h
  clear h;have h:=h1;clear h1;subst Y;generalize Z:gather s.heap 1000 (List.range E.pin++refsOf.refsL xs) []=ids at h;split at h
  case h_2=>simp at h
  rename_i hc;simp only [zg] at hc;split at h
  case h_2=>simp at h
  rename_i H1 V;rw [xbU,xbl] at h;simp only [z6,zb] at h;obtain ⟨rfl,rfl⟩:=h;rw [q];exact ⟨xs,ids,xpB hx,hc.1,hc.2,V,rfl⟩
 cases e with
 | ret=>exact ⟨.inl rfl,J s hq⟩
 | normal=>exact ⟨.inr rfl,J s hq⟩
 | _=>simp [endM] at hq
def iterN {σ ρ:Type} (step:σ->Option (σ⊕ρ)):Nat->σ->Option ρ
 | 0,_=>none
 | n+1,s=>match step s with
  | some (.inl s')=>iterN step n s'
  | some (.inr r)=>some r
  | none=>none
open Classical in
noncomputable def Iter {σ ρ:Type} (step:σ->Option (σ⊕ρ)) (s:σ):Option ρ :=
 if h:∃ r n,iterN step n s=some r then some h.choose else none
def xo0 {σ ρ:Type} {step:σ->Option (σ⊕ρ)}:∀ {n m:Nat} {s:σ} {r:ρ},iterN step n s=some r->n<=m->iterN step m s=some r
 | 0,_,_,_,h,_=>by simp [iterN] at h
 | n+1,0,_,_,_,hm=>by omega
 | n+1,m+1,s,r,h,hm=>by
  simp only [iterN] at h |-;cases hs:step s with
  | none=>rw [hs] at h;simp at h
  | some x =>
   rw [hs] at h;cases x with
   | inl s'=>exact xo0 (n:=n) h (by omega)
   | inr r'=>exact h
def xlr {σ ρ:Type} {step:σ->Option (σ⊕ρ)} {s:σ} {r:ρ}:Iter step s=some r↔∃ n,iterN step n s=some r:=by
 unfold Iter;constructor
 . intro h;split at h
   . rename_i q;obtain ⟨n,hn⟩:=q.choose_spec;simp only [z6] at h;exact ⟨n,by rw [hn,h]⟩
   . simp at h
 . rintro ⟨n,hn⟩;have q:∃ r n,iterN step n s=some r:=⟨r,n,hn⟩;rw [dif_pos q];obtain ⟨n',D⟩:=q.choose_spec;have h1:=xo0 hn (Nat.le_max_left n n');have h2:=xo0 D (Nat.le_max_right n n');rw [h1] at h2;exact h2.symm
def xaq {σ ρ:Type} {step:σ->Option (σ⊕ρ)} {s s':σ} (h:step s=some (.inl s')):Iter step s=Iter step s':=by
 apply Option.ext;intro r;rw [xlr,xlr];constructor
 . rintro ⟨n,hn⟩;cases n with
   | zero=>simp [iterN] at hn
   | succ n=>simp only [iterN,h] at hn;exact ⟨n,hn⟩
 . rintro ⟨n,hn⟩;exact ⟨n+1,by simp only [iterN,h];exact hn⟩
def xah {σ ρ:Type} {step:σ->Option (σ⊕ρ)} {s:σ} {r:ρ} (h:step s=some (.inr r)):Iter step s=some r :=
 xlr.2 ⟨1,by simp only [iterN,h]⟩
def xBn {P:Program} {Inv:IV} {c:Code} {s:St} {Q:Exit->St->Prop} (h:DoesL P Inv c (fun e s1=>∃ s',Weak Inv.pin s1 s'/\Q e s') s):DoesL P Inv c Q s :=
 fun w0 A0 w A M a Qc hI hp hs hQ=>h w0 A0 w A M a Qc hI hp hs fun e s1 a' w' ⟨s',hw,hq⟩ ⟨A',M',hs'⟩=>by
  obtain ⟨A'',M'',q⟩:=hw w0 A0 w' A' M' a' hp hs';exact hQ e s' a' w' hq ⟨A'',M'',q⟩
def XR (P:Program) (E:Env) (live liveO:List Nat) (conv:List (Nat×Nat×TypeId)) (c:Code) (vals:List AV) (H:List Box):Option (Exit×List AV×List Box) :=
 xI1 (mkTs E.nt (live.zip vals)) fun ts=>X P E none c ⟨ts,H⟩ fun e s'=>match e with
  | .normal=>match normS E.pin conv live s' with
   | some (vs,H')=>xI1 vs fun vs=>xIC H' fun H'=>br (Nat.beq s'.tmps.length E.nt) (some (.normal,vs,H')) none
   | none=>none
  | e=>match normS E.pin [] liveO s' with
   | some (vs,H')=>xI1 vs fun vs=>xIC H' fun H'=>br (Nat.beq s'.tmps.length E.nt) (some (e,vs,H')) none
   | none=>none
def encR {σ ρ:Type} (L:σ->List AV×List Box) (out:ρ->LR):σ⊕ρ->Exit×List AV×List Box
 | .inl s=>(.normal,(L s).1,(L s).2)
 | .inr r=>(out r).eval
def xg4 {σ ρ:Type} {P:Program} {Inv:IV} {E:Env} (V:P.follows .mixedOrders=true) (Q:InvOk Inv) (D:Inv.pin=E.pin) (W:xH8 P Inv E) {c:Code} (Y:LoOk P Inv E c) {live liveO:List Nat} {conv:List (Nat×Nat×TypeId)} {step:σ->Option (σ⊕ρ)} (L:σ->List AV×List Box) (out:ρ->LR)
  (J:∀ r,(out r).eval.1≠.normal)
  (q:∀ s r,step s=some r->XR P E live liveO conv c (L s).1 (L s).2=some (encR L out r)) {s:σ} {r:ρ} (h:Iter step s=some r) :
  DoesL P Inv c (fun e1 s1=>e1=(out r).eval.1/\s1=⟨mkTs E.nt (liveO.zip (out r).eval.2.1),(out r).eval.2.2⟩) ⟨mkTs E.nt (live.zip (L s).1),(L s).2⟩:=by
 obtain ⟨n,hn⟩:=xlr.1 h;refine xBn (xuw (fun n s=>∃ b,iterN step n b=some r/\s=⟨mkTs E.nt (live.zip (L b).1),(L b).2⟩) (n0:=n) (Weak.refl _ _) ⟨s,hn,rfl⟩ ?_)
 rintro n s1 ⟨b,hb,rfl⟩;have run:∀ (e0:Exit) (vs:List AV) (H':List Box),XR P E live liveO conv c (L b).1 (L b).2=some (e0,vs,H')->Does P Inv c (fun e s'=>e=e0/\Weak Inv.pin s' ⟨mkTs E.nt ((match e with|.normal=>live|_=>liveO).zip vs),H'⟩) ⟨mkTs E.nt (live.zip (L b).1),(L b).2⟩:=fun e0 vs H' hx=>by
  unfold XR at hx;rw [xbb] at hx;refine xdw (xfe (good:=fun t=>t=some (e0,vs,H')) V Q D (by simp) W c _ _ Y hx) fun e s' hq=>?_
  have key:∀ (cv:List (Nat×Nat×TypeId)) (lv:List Nat) (e':Exit),(match normS E.pin cv lv s' with
    | some (vs,H')=>xI1 vs fun vs=>xIC H' fun H'=>br (Nat.beq s'.tmps.length E.nt) (some (e',vs,H')) none
    | none=>none)=some (e0,vs,H')->e'=e0/\Weak Inv.pin s' ⟨mkTs E.nt (lv.zip vs),H'⟩:=fun cv lv e' hq=>by
   split at hq
   case h_2=>simp at hq
   rename_i Z H1 O;rw [xbb,xbl] at hq;obtain ⟨h1,h2⟩:=xbi (good:=fun t=>t=some (e0,vs,H')) (by simp) hq
   simp only [z6,zb] at h2;obtain ⟨rfl,rfl,rfl⟩:=h2;have hw:=xkP O;rw [zh h1,<-D] at hw;exact ⟨rfl,hw⟩
  cases e with
  | normal=>exact key conv live .normal hq
  | exit id=>exact key [] liveO (.exit id) hq
  | ret=>exact key [] liveO .ret hq
  | goto l=>exact key [] liveO (.goto l) hq
  | panic ch=>exact key [] liveO (.panic ch) hq
  | outgrown=>exact key [] liveO .outgrown hq
 cases n with
 | zero=>simp [iterN] at hb
 | succ n =>
  unfold iterN at hb;split at hb
  . rename_i b' hs;have hx:=q b _ hs;refine xdw (run _ _ _ hx) fun e s' ⟨he,hw⟩=>?_
    subst he;exact ⟨n,_,Nat.lt_succ_self n,hw,b',hb,rfl⟩
  . rename_i r' hs;simp only [z6] at hb;subst hb;have hx:=q b _ hs;refine xdw (run _ _ _ hx) fun e s' ⟨he,hw⟩=>?_
    have hne:=J r';rw [<-he] at hne;have:∃ s'',Weak Inv.pin s' s''/\e=(out r').eval.1/\s''=⟨mkTs E.nt (liveO.zip (out r').eval.2.1),(out r').eval.2.2⟩:=by
     refine ⟨_,?_,he,rfl⟩;cases e<;>first|exact (hne rfl).elim|exact hw
    cases e with
    | normal=>exact (hne rfl).elim
    | _=>exact this
  . simp at hb
end Go.Sim
