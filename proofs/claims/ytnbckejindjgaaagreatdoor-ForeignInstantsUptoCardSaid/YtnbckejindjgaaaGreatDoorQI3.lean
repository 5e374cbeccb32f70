/- Part 3 of the proof of the law. -/
import Derived.Test.YtnbckejindjgaaaGreatDoorQI2
import Derived.Laws.OwnMore
import Derived.Laws.Append
import Derived.Laws.AppendOwn
import Derived.Lib.AppendStr
import Derived.Tactics
import Derived.LoopN
set_option linter.unusedVariables false
set_option linter.unusedSimpArgs false
set_option linter.unnecessarySimpa false
noncomputable section
namespace Go.Sim
open Go.RowKit
mutual
def AV.flat:AV->Bool
 | .agg cs=>AV.flats cs
 | .list _ _=>false
 | .eptr _ _ _ _=>false
 | .own _ _ _ _=>false
 | .osl _ _ _ _=>false
 | .func f cs=>match Nat.beq f vpF with
  | true=>false
  | false=>AV.flats cs
 | .tuple vs=>AV.flats vs
 | .top=>true
 | .bool _=>true
 | .int _ _=>true
 | .str _=>true
 | .nils=>true
 | .nilptr=>true
 | .nilfn=>true
 | .empt=>true
 | .gptr _=>true
 | .yld _=>true
def AV.flats:List AV->Bool
 | []=>true
 | x::xs=>AV.flat x&&AV.flats xs
end
theorem xCK:∀ xs:List AV,AV.flats xs=xs.all AV.flat
 | []=>by simp [AV.flats]
 | x::xs=>by simp [AV.flats,xCK xs]
theorem xuG {xs:List AV} (h:AV.flats xs=true) (i:Nat):(xs.getD i .top).flat=true:=by
 rw [xCK,zI] at h;by_cases hi:i<xs.length
 . simp only [z7,ze hi,zh];exact h _ (zo _)
 . simp [z7,zz (Nat.le_of_not_lt hi),AV.flat]
theorem Rel.flat {w w':World} {A A':Nat->Prop} {M M':Id->Option MB} {v:Value} {x:AV} (h:Rel w A M v x):x.flat=true->Rel w' A' M' v x:=by
 induction h generalizing M' with
 | top v=>intro _;exact .top v
 | bool b=>intro _;exact .bool b
 | int k n=>intro _;exact .int k n
 | str s=>intro _;exact .str s
 | agg vs cs h hr ih=>intro hp;exact .agg vs cs h fun i hi=>ih i hi (xuG (by simpa [AV.flat] using hp) i)
 | nils=>intro _;exact .nils
 | list0 a cap sz=>intro _;exact .list0 a cap sz
 | list b off cap sz xs val ha hb hne hcap hsz hc hr ih=>intro hp;simp [AV.flat] at hp
 | eptr b off sz xs i0 j0 val ha hb hi hsz hc hr ih=>intro hp;simp [AV.flat] at hp
 | own v id ver i j m hm hv h1 he=>intro hp;simp [AV.flat] at hp
 | osl v id ver off len m hm hv h1 he=>intro hp;simp [AV.flat] at hp
 | nilptr=>intro _;exact .nilptr
 | func f vs cs h hr hf ih =>
  intro hp;cases hv:Nat.beq f vpF with
  | true=>simp [AV.flat,hv] at hp
  | false=>exact .func f vs cs h (fun i hi=>ih i hi (xuG (by simpa [AV.flat,hv] using hp) i)) hf
 | vptr b off v0 x ha hb hc hr ih=>intro hp;exact absurd hp (by simp [AV.flat,vpF])
 | nilfn=>intro _;exact .nilfn
 | nmap=>intro _;exact .nmap
 | empt a=>intro _;exact .empt a
 | tuple vs cs h hr ih=>intro hp;exact .tuple vs cs h fun i hi=>ih i hi (xuG (by simpa [AV.flat] using hp) i)
 | gptr g=>intro _;exact .gptr g
 | yld g=>intro _;exact .yld g
def mapO (r:AV->Option AV):List AV->Option (List AV)
 | []=>some []
 | x::xs=>match r x,mapO r xs with
  | some y,some ys=>some (y::ys)
  | _,_=>none
def resE (r:AV->Option AV):AV->Option AV
 | .agg cs=>match mapO r cs with
  | some ds=>some (.agg ds)
  | none=>none
 | x=>r x
def mapE (pm:Bool) (r:AV->Option AV) (xs:List AV):Option (List AV):=if pm=true then some xs else mapO (resE r) xs
def xNA (sz:Nat):AV->Bool
 | .list z _=>Nat.beq z sz
 | _=>false
def xNp (sz j:Nat) (q:List AV):Bool:=q.all fun x=>xNA sz (x.cells.getD j .top)
def rowsOk (bx:Box) (q:List AV):Bool:=match isC bx.ty with
 | false=>true
 | true=>bx.pm&&xNp (rowSz bx.ty) (xM0 bx.ty) q
def resolve (H:List Box):Nat->AV->Option AV
 | 0,x=>if x.pure=true then some x else none
 | n+1,x=>if x.pure=true then some x else
  match x with
  | .agg cs=>match mapO (resolve H n) cs with|some ds=>some (.agg ds)|none=>none
  | .func f cs=>match Nat.beq f vpF with
   | true=>none
   | false=>match mapO (resolve H n) cs with|some ds=>some (.func f ds)|none=>none
  | .own id ver i j=>match xMY H id ver with
   | some bx=>match mapE bx.pm (resolve H n) bx.xs with
    | some ys=>if i<bx.xs.length/\isC bx.ty=false then some (.eptr bx.sz ys i j) else none
    | none=>none
   | none=>none
  | .osl id ver off len=>match xMY H id ver with
   | some bx=>match mapE bx.pm (resolve H n) ((bx.xs.drop off).take len) with
    | some ys=>if off+len<=bx.xs.length/\rowsOk bx ((bx.xs.drop off).take len)=true then some (.list bx.sz ys) else none
    | none=>none
   | none=>none
  | _=>none
def reach (H:List Box):Nat->AV->List Nat
 | 0,_=>[]
 | n+1,x=>if x.pure=true then [] else
  match x with
  | .agg cs=>cs.flatMap (reach H n)
  | .func _ cs=>cs.flatMap (reach H n)
  | .own id _ _ _=>id.base::(match getB H id with|some bx=>if bx.pm=true then [] else bx.xs.flatMap fun (e:AV)=>e.cells.flatMap (reach H n)|none=>[])
  | .osl id _ off len=>id.base::(match getB H id with|some bx=>if bx.pm=true then [] else ((bx.xs.drop off).take len).flatMap fun (e:AV)=>e.cells.flatMap (reach H n)|none=>[])
  | _=>[]
theorem xau {xs:List AV} {i:Nat} (hi:i<xs.length):xs.getD i .top∈xs:=by
 simp only [z7,ze hi,zh];exact zo _
theorem xuU {H:List Box} {n:Nat} {x:AV} (h:x.pure=true):reach H n x=[]:=by
 cases n with
 | zero=>rfl
 | succ n=>unfold reach;rw [if_pos h]
theorem xd4 {r:AV->Option AV}:∀ {xs ys:List AV},mapO r xs=some ys->ys.length=xs.length/\∀ i,i<xs.length->r (xs.getD i .top)=some (ys.getD i .top)
 | [],ys,h=>by simp [mapO] at h;subst h;simp
 | x::xs,ys,h=>by
  unfold mapO at h;split at h
  . rename_i y zs h1 h2;cases h;obtain ⟨e1,e2⟩:=xd4 h2;refine ⟨by simp [e1],fun i hi=>?_⟩
    cases i with
    | zero=>simpa using h1
    | succ i=>have:=e2 i (by simp at hi;omega);simpa using this
  . simp at h
theorem xHJ {r:AV->Option AV} {xs ys:List AV} (h:mapO r xs=some ys) {i:Nat} (hi:i<xs.length):r (xs.getD i .top)=some (ys.getD i .top):=(xd4 h).2 i hi
theorem xGf {H:List Box} {n:Nat} {x y:AV} (h:resE (resolve H n) x=some y) (hx:x.cells.all AV.one=true) :
  y.cells.length=x.cells.length/\∀ j,j<x.cells.length->resolve H n (x.cells.getD j .top)=some (y.cells.getD j .top):=by
 have key:∀ x y:AV,x.cells=[x]->x.one=true->resolve H n x=some y->y.cells.length=x.cells.length/\∀ j,j<x.cells.length->resolve H n (x.cells.getD j .top)=some (y.cells.getD j .top):=by
  intro x y hc h1 hr;have hy:y.cells=[y]:=by
   cases n with
   | zero =>
    unfold resolve at hr;split at hr
    . cases hr;exact hc
    . simp at hr
   | succ n =>
    unfold resolve at hr;split at hr
    . cases hr;exact hc
    . split at hr<;>first
       | (simp [AV.one] at h1;done)
       | (simp at hr;done)
       | (
        split at hr
        . simp at hr
        . split at hr
          . cases hr;rfl
          . simp at hr)
       | (
        split at hr
        . cases hr;rfl
        . simp at hr)
       | (
        split at hr
        . split at hr
          . split at hr
            . cases hr;rfl
            . simp at hr
          . simp at hr
        . simp at hr)
  rw [hc,hy];refine ⟨rfl,fun j hj=>?_⟩
  have:j=0:=by simpa using hj
  subst this;exact hr
 cases x with
 | agg cs =>
  simp only [resE] at h;split at h
  . rename_i ds q;cases h;exact ⟨(xd4 q).1,fun j hj=>xHJ q hj⟩
  . simp at h
 | top=>simp [AV.cells,AV.one] at hx
 | tuple vs=>simp [AV.cells,AV.one] at hx
 | _=>exact key _ _ rfl (by simpa [AV.cells] using hx) h
theorem xEh {H:List Box} {n:Nat} {x y:AV} (h:resolve H n x=some y) (hx:x.one=true):y.one=true:=by
 cases n with
 | zero =>
  unfold resolve at h;split at h
  . cases h;exact hx
  . simp at h
 | succ n =>
  unfold resolve at h;split at h
  . cases h;exact hx
  . split at h<;>first
     | (simp [AV.one] at hx;done)
     | (simp at h;done)
     | (
      split at h
      . simp at h
      . split at h
        . cases h;rfl
        . simp at h)
     | (
      split at h
      . cases h;rfl
      . simp at h)
     | (
      split at h
      . split at h
        . split at h
          . cases h;rfl
          . simp at h
        . simp at h
      . simp at h)
theorem xkM {H:List Box} {n:Nat} {x:AV} (h:x.pure=true):resolve H n x=some x:=by
 cases n<;>simp [resolve,h]
theorem xzs {H:List Box} {n sz:Nat} {pm:Bool} {xs ys:List AV} (h:mapE pm (resolve H n) xs=some ys) (q:∀ x,x∈xs->x.okElem sz=true) :
  ys.length=xs.length/\(∀ y,y∈ys->y.okElem sz=true)/\(pm=true->ys=xs)/\(¬ pm=true->∀ i j,i<xs.length->j<sz->resolve H n ((xs.getD i .top).cells.getD j .top)=some ((ys.getD i .top).cells.getD j .top)):=by
 unfold mapE at h;split at h
 . rename_i hp;cases h;exact ⟨rfl,q,fun _=>rfl,fun h=>absurd hp h⟩
 . rename_i O;obtain ⟨h1,h2⟩:=xd4 h;have at_:∀ i,i<xs.length->xs.getD i .top∈xs:=fun i hi=>by
    simp only [z7,ze hi,zh];exact zo _
   have cell:∀ i,i<xs.length->(ys.getD i .top).cells.length=sz/\∀ j,j<sz->resolve H n ((xs.getD i .top).cells.getD j .top)=some ((ys.getD i .top).cells.getD j .top):=by
    intro i hi;have hk:=q _ (at_ i hi);obtain ⟨e1,e2⟩:=xGf (h2 i hi) (xaF hk);have hl:=xan hk;exact ⟨by omega,fun j hj=>e2 j (by omega)⟩
   refine ⟨h1,fun y hy=>?_,fun h=>absurd h O,fun _ i j hi hj=>(cell i hi).2 j hj⟩
   obtain ⟨i,hi,rfl⟩:=zp.1 hy;have hi':i<xs.length:=by omega
   obtain ⟨c1,c2⟩:=cell i hi';have e:ys.getD i .top=ys[i]:=by simp [z7,hi]
   rw [e] at c1 c2;simp only [AV.okElem,c1,beq_self_eq_true,Bool.true_and,zI];intro c hc;obtain ⟨j,hj,rfl⟩:=zp.1 hc;have hk:=xaF (q _ (at_ i hi'));have hl:=xan (q _ (at_ i hi'));have hj':j<sz:=by omega
   have h3:=c2 j hj';have e3:ys[i].cells.getD j .top=ys[i].cells[j]:=by simp [z7,hj]
   rw [e3] at h3;refine xEh h3 ?_;rw [zI] at hk;have J:j<(xs.getD i .top).cells.length:=by omega
   exact hk _ (xau J)
section
variable {w : World} {A A' : Nat -> Prop} {M M' : Id -> Option MB} {B : Nat} {H : List Box}
theorem xHX {n:Nat} {id:Id} {e:AV} {bx:Box} (hb:getB H id=some bx) (q:¬ bx.pm=true) (he:e∈bx.xs) {c:AV} (hc:c∈e.cells) {k:Nat} (hk:k∈reach H n c) :
  k∈(match getB H id with|some bx=>if bx.pm=true then [] else bx.xs.flatMap fun (e:AV)=>e.cells.flatMap (reach H n)|none=>[]):=by
 simp only [hb,q,if_false];exact y6.2 ⟨e,he,y6.2 ⟨c,hc,hk⟩⟩
theorem xHY {n:Nat} {id:Id} {off len:Nat} {e:AV} {bx:Box} (hb:getB H id=some bx) (q:¬ bx.pm=true) (he:e∈(bx.xs.drop off).take len) {c:AV} (hc:c∈e.cells) {k:Nat} (hk:k∈reach H n c) :
  k∈(match getB H id with|some bx=>if bx.pm=true then [] else ((bx.xs.drop off).take len).flatMap fun (e:AV)=>e.cells.flatMap (reach H n)|none=>[]):=by
 simp only [hb,q,if_false];exact y6.2 ⟨e,he,y6.2 ⟨c,hc,hk⟩⟩
theorem xkC {xs:List AV} {c:AV} (h:c∈xs):∃ i,i<xs.length/\xs.getD i .top=c:=by
 obtain ⟨i,hi,rfl⟩:=zp.1 h;exact ⟨i,hi,by simp [z7,hi]⟩
theorem xcG {H:List Box} {n:Nat} {b:Box} (h:H[n]?=some b):n<H.length:=by
 rcases zJ n H.length with h'|h'
 . exact h'
 . rw [zz h'] at h;simp at h
theorem xnI {H H':List Box} {x:Id} (h:H[x.base]?=H'[x.base]?):getB H x=getB H' x:=by
 cases x with
 | b n=>exact h
 | r n i j=>simp only [Id.base] at h;simp only [getB,h]
theorem xqh {H:List Box} {n i j:Nat} {rb:Box} (h:getB H (.r n i j)=some rb):∃ bx:Box,H[n]?=some bx/\(isC bx.ty=false/\rb=tombB\/isC bx.ty=true/\xMW bx.ty j=true/\bx.pm=true/\i<bx.xs.length/\rb=xNl bx ((bx.xs.getD i .top).cells.getD j .top)):=by
 simp only [getB] at h;split at h
 . rename_i bx hb;split at h
   . rename_i q;split at h
     . rename_i hc;simp only [z6] at h;exact ⟨bx,hb,.inr ⟨q,hc.1,hc.2.1,hc.2.2,h.symm⟩⟩
     . simp at h
   . rename_i q;simp only [z6] at h;exact ⟨bx,hb,.inl ⟨q,h.symm⟩⟩
 . simp at h
theorem xhR {H:List Box} {n i j:Nat} {rb bx:Box} (hb:H[n]?=some bx) (hC:isC bx.ty=true) (h:getB H (.r n i j)=some rb):xMW bx.ty j=true/\bx.pm=true/\i<bx.xs.length/\rb=xNl bx ((bx.xs.getD i .top).cells.getD j .top):=by
 obtain ⟨q,h1,h2⟩:=xqh h;rw [hb] at h1;cases h1;rcases h2 with ⟨h2,_⟩|⟨_,h2⟩
 . rw [hC] at h2;cases h2
 . exact h2
theorem xee {H:List Box} {n i j:Nat} {bx:Box} (hb:H[n]?=some bx) (hC:isC bx.ty=true) (hs:xMW bx.ty j=true) (hp:bx.pm=true) (hi:i<bx.xs.length):getB H (.r n i j)=some (xNl bx ((bx.xs.getD i .top).cells.getD j .top)):=by
 simp only [getB,hb,hC];exact if_pos ⟨hs,hp,hi⟩
theorem xdo {H:List Box} {n i j:Nat} {bx:Box} (hb:H[n]?=some bx) (hC:isC bx.ty=false):getB H (.r n i j)=some tombB:=by
 simp only [getB,hb,hC]
theorem xe9 {t:TypeId} {j:Nat} (h:xMW t j=true):isC t=true:=by
 cases hc:isC t with
 | true=>rfl
 | false=>rw [xr9 hc] at h;cases h
theorem xiG {sz:Nat} {x:AV} (h:xNA sz x=true):∃ ys,x=.list sz ys:=by
 cases x<;>first|(simp [xNA] at h;done)|skip
 rename_i z ys;exact ⟨ys,by rw [zg h]⟩
theorem xDv (hR:HR w A M B H) (hA:∀ b,b<w.heap.size->A' b->A b) {n i j sz:Nat} {ys:List AV} {v:Value} {bx:Box} (hb:H[n]?=some bx) (hC:isC bx.ty=true) (hx:(bx.xs.getD i .top).cells.getD j .top=.list sz ys)
  (h:Rel w A M v (xNZ n i j (.list sz ys))) (O:∀ m,M (.r n i j)=some m->0<m.cap->¬ A' m.b):Rel w A' xM7 v (.list sz ys):=by
 obtain ⟨m,hm,U,h1,he⟩:=Rel.osl_inv h;obtain ⟨rb,g1,g2⟩:=hR.box _ m hm;obtain ⟨g4,g5,g6,g7⟩:=xhR hb hC g1;rw [hx] at g7;subst g7;have hv:2*ys.length=m.ver:=g2.ver;obtain ⟨e1,a,rfl,e2⟩:=he hv;have hsz:sz=m.sz:=g2.sz;subst hsz;have J:isC (xNl bx (.list m.sz ys)).ty=false:=xbw _;simp only [rowLen,Nat.sub_zero,zH] at e1 e2 |-;by_cases hz:ys=[]
 . subst hz;exact .list0 _ _ _
 . have hl:0<ys.length:=List.length_pos_iff.2 hz;have q:0<m.cap:=by omega
   obtain ⟨c,c1,c2,c3⟩:=g2.cells q
   replace c1:=c1.plain (g2.nomap (xas J))
   have Q:=e2 q;subst Q;rw [Nat.zero_mul];refine .list m.b 0 m.cap m.sz ys (fun i j=>c.getD (i*m.sz+j) undef) (O m hm q) (g2.lt q) hz e1 g2.ok (fun i j hi hj=>?_) (fun i j hi hj=>?_)
   . have hk:i*m.sz+j<c.size:=by rw [c2];exact xc8 (by omega) hj
     rw [zH];simp [World.cell?,c1,hk]
   . have h4:=c3 i j hi hj;rw [xam J,xaO J] at h4;exact h4.mono (fun _ _ _=>rfl) (zd _) hA (MExt.refl _)
theorem xd7 (hR:HR w A M B H) (hA:∀ b,b<w.heap.size->A' b->A b):∀ (n:Nat) (v:Value) (x y:AV),Rel w A M v x->resolve H n x=some y ->
  (∀ id:Id,id.base∈reach H n x->∀ m,M id=some m->0<m.cap->¬ A' m.b)->Rel w A' xM7 v y
 | 0,v,x,y,hx,h,_=>by
  unfold resolve at h;split at h
  . rename_i hp;cases h;exact (hx.mono (fun _ _ _=>rfl) (zd _) hA (MExt.refl M)).pure hp
  . simp at h
 | n+1,v,x,y,hx,h,hid=>by
  unfold resolve at h;unfold reach at hid;split at h
  . rename_i hp;cases h;exact (hx.mono (fun _ _ _=>rfl) (zd _) hA (MExt.refl M)).pure hp
  rename_i hp;simp only [hp,if_false] at hid;split at h
  . rename_i cs;split at h
    case h_2=>simp at h
    rename_i ds ac;cases h;obtain ⟨vs,rfl,hs,hr⟩:=hx.agg_inv;obtain ⟨e1,e2⟩:=xd4 ac;exact .agg vs ds (by omega) fun i hi=>xd7 hR hA n _ _ _ (hr i (by omega)) (e2 i (by omega)) fun k hk m hm=>hid k (y6.2 ⟨_,xau (by omega),hk⟩) m hm
  . rename_i f cs;split at h
    . simp at h
    rename_i af;split at h
    case h_2=>simp at h
    rename_i ds ac;cases h;obtain ⟨vs,rfl,hs,hr⟩:=hx.func_inv af;obtain ⟨e1,e2⟩:=xd4 ac;exact .func f vs ds (by omega) (fun i hi=>xd7 hR hA n _ _ _ (hr i (by omega)) (e2 i (by omega)) fun k hk m hm=>hid k (y6.2 ⟨_,xau (by omega),hk⟩) m hm) fun e=>by rw [af] at e;cases e
  . rename_i id ver i j;split at h
    case h_2=>simp at h
    rename_i bx U;split at h
    case h_2=>simp at h
    rename_i ys ad;split at h
    case isFalse=>simp at h
    rename_i hi;obtain ⟨hi,Q⟩:=hi;cases h;obtain ⟨m,hm,q,rfl⟩:=xnP hR hx U;have W:=(xay U).1;have J:0<m.cap:=by have:=q.fits;omega
    obtain ⟨c,h1,h2,h3⟩:=q.cells J
    replace h1:=h1.plain (q.nomap (xcc U))
    obtain ⟨e1,e2,e0,e3⟩:=xzs ad (fun x hx=>q.ok x hx)
    have hsz:=q.sz;have ae:∀ i j,i<bx.xs.length->j<m.sz->w.cell? ⟨m.b,i*m.sz+j,none⟩=some (c.getD (i*m.sz+j) undef):=by
     intro i j hi hj;have hk:i*m.sz+j<c.size:=by rw [h2];exact xc8 (Nat.lt_of_lt_of_le hi q.fits) hj
     simp [World.cell?,h1,hk]
    have ab:¬ A' m.b:=hid id (by simp) m hm J
    have:=Rel.eptr (w:=w) (A:=A') (M:=xM7) m.b 0 m.sz ys i j (fun i j=>c.getD (i*m.sz+j) undef) ab (q.lt J) (by omega) e2
     (fun i j hi hj=>by rw [zH];exact ae i j (by omega) hj)
     (fun i j hi hj=>by
      have h4:=h3 i j (by omega) hj
      rw [xam Q,xaO Q] at h4;by_cases O:bx.pm=true
      . rw [e0 O];rw [O] at h4;exact h4.mono (fun _ _ _=>rfl) (zd _) hA (MExt.refl _)
      . refine xd7 hR hA n _ _ _ h4.unmp (e3 O i j (by omega) hj) fun k hk m' Y=>?_
        refine hid k (List.mem_cons_of_mem _ (xHX W O (xau (show i<bx.xs.length by omega)) ?_ hk)) m' Y
        have hl:=xan (q.ok _ (xau (show i<bx.xs.length by omega)))
        exact xau (by omega))
    rw [zH] at this;rw [hsz];exact this
  . rename_i id ver off len;split at h
    case h_2=>simp at h
    rename_i bx U;split at h
    case h_2=>simp at h
    rename_i ys ad;split at h
    case isFalse=>simp at h
    rename_i ah;obtain ⟨ah,Q⟩:=ah;cases h;obtain ⟨m,a,hm,q,am,rfl,ha⟩:=xjg hR hx U;have W:=(xay U).1;have ag:∀ x,x∈(bx.xs.drop off).take len->x∈bx.xs:=fun x hx=>List.mem_of_mem_drop (List.mem_of_mem_take hx)
    obtain ⟨e1,e2,e0,e3⟩:=xzs ad (fun x hx=>q.ok x (ag x hx))
    have aa:((bx.xs.drop off).take len).length=len:=by simp;omega
    have hg:∀ i,i<len->((bx.xs.drop off).take len).getD i .top=bx.xs.getD (off+i) .top:=fun i hi=>by
     simp [z7,List.getElem?_take,hi,List.getElem?_drop]
    have hsz:=q.sz;rw [aa] at e1;rw [hsz];by_cases hz:len=0
    . have:ys=[]:=zA (by omega)
      subst this;subst hz;exact .list0 _ _ _
    . have al:=ha (by omega);subst al
      have J:0<m.cap:=by omega
      obtain ⟨c,h1,h2,h3⟩:=q.cells J
      replace h1:=h1.plain (q.nomap (xcc U))
      have ab:¬ A' m.b:=hid id (by simp) m hm J
      have:=Rel.list (w:=w) (A:=A') (M:=xM7) m.b (off*m.sz) (m.cap - off) m.sz ys (fun i j=>c.getD ((off+i)*m.sz+j) undef) ab (q.lt J) (by intro e;subst e;simp at e1;omega) (by omega) e2
       (fun i j hi hj=>by
        have hk:(off+i)*m.sz+j<c.size:=by rw [h2];exact xc8 (by omega) hj
        rw [show off*m.sz+i*m.sz+j=(off+i)*m.sz+j by rw [Nat.add_mul]]
        simp [World.cell?,h1,hk])
       (fun i j hi hj=>by
        have h4:=h3 (off+i) j (by omega) hj
        cases V:xMW bx.ty j with
        | true =>
         have hc:=xe9 V;unfold rowsOk at Q;rw [hc] at Q;simp only [xNp,zf,zI] at Q;have hj':j=xM0 bx.ty:=by unfold xMW at V;rw [hc] at V;exact zg V
         obtain ⟨zs,Z⟩:=xiG (Q.2 _ (xau (xs:=(bx.xs.drop off).take len) (i:=i) (by omega)))
         rw [hg i (by omega),<-hj'] at Z
         rw [e0 Q.1,hg i (by omega),Z]
         unfold xNi MV at h4;simp only [V] at h4;rw [Z] at h4;cases id with
         | b nn=>exact xDv hR hA W hc Z h4 fun m' Y h0=>hid (.r nn (off+i) j) (by simp [Id.base]) m' Y h0
         | r nn i' j' =>
          obtain ⟨an,_,⟨_,rfl⟩|⟨_,_,_,_,rfl⟩⟩:=xqh W
          . cases hc
          . rw [xBv,xbw] at hc;cases hc
        | false =>
        have ak:xNi id.base (off+i) j bx.ty ((bx.xs.getD (off+i) .top).cells.getD j .top)=(bx.xs.getD (off+i) .top).cells.getD j .top:=by unfold xNi;rw [V]
        have aj:MV M bx j=MP M bx.pm:=by unfold MV;rw [V]
        rw [ak,aj] at h4;by_cases O:bx.pm=true
        . rw [e0 O,hg i (by omega)]
          rw [O] at h4;exact h4.mono (fun _ _ _=>rfl) (zd _) hA (MExt.refl _)
        . have h5:=e3 O i j (by rw [aa];omega) hj
          rw [hg i (by omega)] at h5
          refine xd7 hR hA n _ _ _ h4.unmp h5 fun k hk m' Y=>?_
          have ai:bx.xs.getD (off+i) .top∈(bx.xs.drop off).take len:=by rw [<-hg i (by omega)];exact xau (by omega)
          refine hid k (List.mem_cons_of_mem _ (xHY W O ai ?_ hk)) m' Y;have hl:=xan (q.ok _ (xau (show off+i<bx.xs.length by omega)))
          exact xau (by omega))
      rw [e1] at this;exact this
  . simp at h
end
end Go.Sim
namespace Go.Sim
open Go.RowKit
def xNv (H:List Box) (sz:Nat):AV->Option (List AV×Bool)
 | .nils=>some ([],true)
 | .list sz' xs=>if sz'=sz then some (xs,true) else none
 | .osl id ver off len=>match xMY H id ver with
  | some bx=>if bx.sz=sz/\off+len<=bx.xs.length/\isC bx.ty=false then some ((bx.xs.drop off).take len,bx.pm) else none
  | none=>none
 | _=>none
def putCells (e:AV) (j n sz:Nat) (v:AV):AV:=if j=0/\n=sz then v else .agg (e.cells.take j++v.cells++e.cells.drop (j+n))
def absSrc (P:Program) (H:List Box) (t tt e:TypeId) (sz:Nat) (x:AV):Option (List AV×Bool) :=
 if t=tt then xNv H sz x else
  match xMU P tt,xMU P e,x with
  | some tj,some te,.str s=>match tj.d,te.d with
   | .string,.int .u8=>if te.sz=1 then some (s.map fun (u:UInt8)=>.int .u8 u.toNat,true) else none
   | _,_=>none
  | _,_,_=>none
def absApp (H:List Box) (e:TypeId) (te:TI) (s:AV) (ys:List AV) (pm:Bool):Option (AV×List Box) :=
 match s with
 | .nils=>if 0<te.sz/\ys.length*te.bytes<=140737488355328/\ys.length<=xNJ/\te.zero.okElem te.sz=true then some (.osl H.length 0 0 ys.length,H++[⟨0,te.sz,e,ys,false,pm⟩]) else none
 | .osl (.b id) ver off len=>match xMY H id ver with
  | some bx=>if off=0/\len=bx.xs.length/\bx.frz=false/\bx.sz=te.sz/\bx.ty=e/\0<te.sz/\(len+ys.length)*te.bytes<=140737488355328/\len+ys.length<=xNJ/\te.zero.okElem te.sz=true then
   some (.osl id (ver+1) 0 (len+ys.length),H.set id ⟨ver+1,te.sz,e,bx.xs++ys,false,bx.pm&&pm⟩) else none
  | none=>none
 | _=>none
def xNY (P:Program) (H:List Box) (t tt:TypeId) (s x:AV):Option (AV×List Box) :=
 match xMU P t with
 | some ti=>match ti.d with
  | .slice e=>match xMU P e with
   | some te=>match absSrc P H t tt e te.sz x with
    | some (ys,pm)=>absApp H e te s ys pm
    | none=>none
   | none=>none
  | _=>none
 | none=>none
def absStore (P:Program) (H:List Box) (t:TypeId) (a v:AV):Option (List Box) :=
 match xMU P t,a with
 | some ti,.own (.b id) ver i j=>match xMY H id ver with
  | some bx=>match bx.xs[i]? with
   | some e=>if bx.frz=false/\v.okElem ti.sz=true/\j+ti.sz<=bx.sz/\isC bx.ty=false then some (H.set id ⟨ver,bx.sz,bx.ty,bx.xs.set i (putCells e j ti.sz bx.sz v),false,bx.pm&&v.pure⟩) else none
   | none=>none
  | none=>none
 | _,_=>none
def absClear (P:Program) (H:List Box) (t:TypeId) (x:AV):Option (List Box) :=
 match xMU P t with
 | some ti=>match ti.d with
  | .slice e=>match xMU P e with
   | some te=>match x with
    | .osl (.b id) ver off len=>match xMY H (.b id) ver with
     | some bx=>if bx.frz=false/\bx.sz=te.sz/\off+len<=bx.xs.length/\te.zero.okElem te.sz=true/\te.zero.pure=true/\isC bx.ty=false then
      some (H.set id ⟨ver,bx.sz,bx.ty,bx.xs.take off++(List.replicate len te.zero++bx.xs.drop (off+len)),false,bx.pm⟩) else none
     | none=>none
    | _=>none
   | none=>none
  | _=>none
 | none=>none
theorem xkc (l:List AV):(AV.agg l).cells=l:=rfl
def xNM (l:List Value) (o:Nat) (vs:List Value):List Value:=l.take o++vs++l.drop (o+vs.length)
theorem xhn {l:List Value} {o:Nat} {vs:List Value} (h:o+vs.length<=l.length) (k:Nat) :
  (xNM l o vs).getD k undef=if o<=k/\k<o+vs.length then vs.getD (k - o) undef else l.getD k undef:=by
 have h1:min o l.length=o:=by omega
 simp only [xNM,zw,z7,zP,zt,h1];by_cases hk:k<o
 . simp [hk,List.getElem?_take,show ¬ o<=k by omega]
 . by_cases q:k<o+vs.length
   . simp [hk,show k - o<vs.length by omega,q,show o<=k by omega]
   . simp only [hk,if_false,show ¬ (k - o<vs.length) by omega,q,and_false,List.getElem?_drop]
     congr 2;omega
theorem xjn {l:List Value} {o:Nat} {vs:List Value} (h:o+vs.length<=l.length):(xNM l o vs).length=l.length:=by
 simp [xNM];omega
section
variable {P : Program} {w : World} {A : Nat -> Prop} {M : Id -> Option MB} {B : Nat} {H : List Box}
theorem xeF (l:List Value) (k:Nat):l.toArray.getD k undef=l.getD k undef:=by simp [z7,zu]
theorem xbO (c:Array Value) (k:Nat):c.toList.getD k undef=c.getD k undef:=by simp [z7,zu]
def MSet (M:Id->Option MB) (id:Id) (m:MB):Id->Option MB:=fun i=>if i=id then some m else M i
theorem xsd {id:Id} {m m':MB} (hm:M id=some m) (h:m'=m\/m.ver<m'.ver):MExt M (MSet M id m'):=fun i m1 h1=>by
 by_cases hi:i=id
 . subst hi;rw [hm] at h1;cases h1;exact ⟨m',by simp [MSet],h⟩
 . exact ⟨m1,by simp [MSet,hi,h1],.inl rfl⟩
def Touch (w w':World) (M M':Id->Option MB):Prop :=
 (∀ b,b<w.heap.size->(∀ id m,M id=some m->0<m.cap->m.b≠b)->w'.heap[b]?=w.heap[b]?) /\
 ∀ id m',M' id=some m'->0<m'.cap->(∃ i m,M i=some m/\0<m.cap/\m'.b=m.b)\/w.heap.size<=m'.b
theorem Touch.of_new {w w':World} {M M':Id->Option MB} (hb:Below w.heap.size w w') (h:∀ id m,M' id=some m->M id=some m\/w.heap.size<=m.b):Touch w w' M M' :=
 ⟨fun b h _=>hb.block b h,fun id m' hm h0=>(h id m' hm).imp (fun h=>⟨id,m',h,h0,rfl⟩) (fun h=>h)⟩
theorem xbz (H:List Box) (n:Nat):getB H (.b n)=H[n]?:=rfl
theorem xo8 {id:Id} {bx:Box} (hb:getB H id=some bx):id.base<H.length:=by
 cases id with
 | b n=>rw [xbz] at hb;exact xcG hb
 | r n i j =>
  obtain ⟨q,h,_⟩:=xqh hb;exact xcG h
theorem xwX {id:Id} {bx:Box} {l:List Box} (hb:getB H id=some bx):getB (H++l) id=some bx:=by
 rw [<-hb];exact xnI (zO (xo8 hb))
theorem xD5 {n:Nat} {j:Id} {bx':Box} (h:j.base≠n):getB (H.set n bx') j=getB H j :=
 xnI (by rw [zX (Ne.symm h)])
theorem xdn {n:Nat} {bx bx':Box} (hb:H[n]?=some bx) (J:isC bx.ty=false) (q:isC bx'.ty=false) {j:Id} (hne:j≠.b n):getB (H.set n bx') j=getB H j:=by
 by_cases hj:j.base=n
 . cases j with
   | b k=>exact absurd (by rw [<-hj];rfl) hne
   | r k i l =>
    simp only [Id.base] at hj;subst hj;rw [xdo hb J,xdo (zL (xcG hb)) q]
 . exact xD5 hj
theorem xoU (hR:HR w A M B H) {id:Nat} {m m':MB} {bx bx':Box} (q:0<m.cap) (hm:M (.b id)=some m) (hb:H[id]?=some bx) (O:BoxAt w A M B (.b id) m bx) (ab:isC bx.ty=false) (Q:isC bx'.ty=false) (af:bx.frz=false) {c':Array Value}
  (e1:m'.b=m.b) (e2:m'.cap=m.cap) (e3:m'.sz=m.sz) (e4:m'.ty=m.ty) (e5:m'=m\/m.ver<m'.ver) (f1:bx'.ver=m'.ver) (f2:bx'.sz=m'.sz) (f3:bx'.ty=m'.ty) (f4:bx'.frz=false)
  (ac:bx'.xs.length<=m.cap) (ad:∀ x,x∈bx'.xs->x.okElem m.sz=true) (hsz:c'.size=m.cap*m.sz)
  (hc:∀ i j,i<bx'.xs.length->j<m.sz->Rel w A (MP M bx'.pm) (c'.getD (i*m.sz+j) undef) ((bx'.xs.getD i .top).cells.getD j .top)) :
  HR (w.setRow m.b c') A (MSet M (.b id) m') B (H.set id bx')/\MExt M (MSet M (.b id) m')/\(∀ b,b<w.heap.size->¬ A b->(w.setRow m.b c').heap[b]?=w.heap[b]?)/\Below B w (w.setRow m.b c')/\Touch w (w.setRow m.b c') M (MSet M (.b id) m')/\A m.b:=by
 have Y:A m.b:=(O.guard q).1 af;have U:MExt M (MSet M (.b id) m'):=xsd hm e5;have hs:(w.setRow m.b c').heap.size=w.heap.size:=by simp [World.setRow]
 have hw:∀ b,b<w.heap.size->¬ A b->(w.setRow m.b c').heap[b]?=w.heap[b]?:=fun b _ hb=>setRow_other w m.b b c' fun e=>hb (e▸Y)
 obtain ⟨c,h1,h2,h3⟩:=O.cells q;have Z:xMX m.ty=false:=O.nomap (xas ab)
 replace h1:=h1.plain Z
 refine ⟨⟨?_,?_,fun b hb=>by rw [hs];exact hR.lt b hb⟩,U,hw,⟨rfl,rfl,rfl,by rw [hs];exact zd _,fun k hk=>setRow_other w m.b k c' fun e=>by have:=O.low q;omega⟩,⟨fun b _ hb=>setRow_other w m.b b c' fun e=>hb (.b id) m hm q e.symm,fun i m1 J _=>?_⟩,Y⟩
 . intro i m1 J;by_cases hi:i=.b id
   . subst hi;have:m1=m':=by simp [MSet] at J;exact J.symm
     subst this;refine ⟨bx',by rw [xbz,zL (xcG hb)],⟨f1,f2,by rw [xaS Q];exact f3,by rw [e2];exact O.capm,by rw [e2];exact ac,by rw [e3];exact ad,fun _=>by rw [e1];exact O.low q,fun _=>by rw [e1,hs];exact O.lt q,fun _=>⟨c',.of (by rw [e4];exact Z) (by rw [e1,e4];exact setRow_heap w m.b c c' m.ty (0,0) h1),by rw [e2,e3];exact hsz,?_⟩,fun _=>⟨fun _=>by rw [e1];exact Y,fun _=>f4⟩⟩⟩
     intro i j hi hj;rw [e3] at hj |-;rw [xam Q,xaO Q];exact (hc i j hi hj).mono hw (by rw [hs];exact zd _) (fun b _ h=>h) (xwB U _)
   . have aa:M i=some m1:=by simpa [MSet,hi] using J
     obtain ⟨ae,g1,g2⟩:=hR.box i m1 aa;have hne:0<m1.cap->m1.b≠m.b:=fun h0 e=>hi (hR.inj i (.b id) m1 m aa hm h0 q e)
     exact ⟨ae,by rw [xdn hb ab Q hi];exact g1,g2.mono (fun h0=>setRow_other w m.b m1.b c' (hne h0)) hw (by rw [hs];exact zd _) (fun b _ h=>h) g2.guard U⟩
 . intro i i' m1 m2 J W c1 c2 he;by_cases hi:i=.b id<;>by_cases V:i'=.b id
   . rw [hi,V]
   . have g1:m1=m':=by simp [MSet,hi] at J;exact J.symm
     have g2:M i'=some m2:=by simpa [MSet,V] using W
     rw [hi];exact hR.inj (.b id) i' m m2 hm g2 q c2 (by rw [<-he,g1,e1])
   . have g1:m2=m':=by simp [MSet,V] at W;exact W.symm
     have g2:M i=some m1:=by simpa [MSet,hi] using J
     rw [V];exact hR.inj i (.b id) m1 m g2 hm c1 q (by rw [he,g1,e1])
   . exact hR.inj i i' m1 m2 (by simpa [MSet,hi] using J) (by simpa [MSet,V] using W) c1 c2 he
 . by_cases hi:i=.b id
   . have g1:m1=m':=by simp [MSet,hi] at J;exact J.symm
     exact .inl ⟨.b id,m,hm,q,by rw [g1,e1]⟩
   . rename_i h0;exact .inl ⟨i,m1,by simpa [MSet,hi] using J,h0,rfl⟩
theorem xHb (hR:HR w A M B H) {id:Nat} {m m':MB} {bx bx':Box} (U:m.cap=0) (hm:M (.b id)=some m) (hb:H[id]?=some bx) (Z:isC bx.ty=false) (J:isC bx'.ty=false)
  (e2:m'.cap=m.cap) (e3:m'.sz=m.sz) (e5:m'=m\/m.ver<m'.ver) (f1:bx'.ver=m'.ver) (f2:bx'.sz=m'.sz) (f3:bx'.ty=m'.ty) (f5:bx'.xs=[]) :
  HR w A (MSet M (.b id) m') B (H.set id bx')/\MExt M (MSet M (.b id) m')/\Touch w w M (MSet M (.b id) m'):=by
 have O:MExt M (MSet M (.b id) m'):=xsd hm e5;have hc:∀ {p:Prop},0<m'.cap->p:=fun h=>absurd h (by omega)
 refine ⟨⟨?_,?_,hR.lt⟩,O,⟨fun _ _ _=>rfl,fun i m1 q h0=>?_⟩⟩
 . intro i m1 q;by_cases hi:i=.b id
   . subst hi;have:m1=m':=by simp [MSet] at q;exact q.symm
     subst this;exact ⟨bx',by rw [xbz,zL (xcG hb)],⟨f1,f2,by rw [xaS J];exact f3,by rw [e2,U];exact zQ _,by rw [f5];exact zQ _,by rw [f5];simp,hc,hc,hc,hc⟩⟩
   . have Y:M i=some m1:=by simpa [MSet,hi] using q
     obtain ⟨W,g1,g2⟩:=hR.box i m1 Y;exact ⟨W,by rw [xdn hb Z J hi];exact g1,g2.mono (fun _=>rfl) (fun _ _ _=>rfl) (zd _) (fun b _ h=>h) g2.guard O⟩
 . intro i i' m1 m2 q Q c1 c2 he;by_cases hi:i=.b id
   . have g1:m1=m':=by simp [MSet,hi] at q;exact q.symm
     rw [g1] at c1;exact hc c1
   . by_cases V:i'=.b id
     . have g1:m2=m':=by simp [MSet,V] at Q;exact Q.symm
       rw [g1] at c2;exact hc c2
     . exact hR.inj i i' m1 m2 (by simpa [MSet,hi] using q) (by simpa [MSet,V] using Q) c1 c2 he
 . by_cases hi:i=.b id
   . have g1:m1=m':=by simp [MSet,hi] at q;exact q.symm
     rw [g1] at h0;exact hc h0
   . exact .inl ⟨i,m1,by simpa [MSet,hi] using q,h0,rfl⟩
def Writes (P:Program) (o:Oper) (ρc:Operand->Value) (w:World) (A:Nat->Prop) (M:Id->Option MB) (B:Nat) (x:AV) (H':List Box):Prop :=
 ∃ n w' A' M' v,(execOp ρc o).run P w=.ok n w'/\((n=.value v)\/(n=.skip/\v=undef))/\Below B w w'/\MExt M M'/\(∀ b,b<w.heap.size->(A' b↔A b))/\(∀ b,b<w.heap.size->¬ A b->w'.heap[b]?=w.heap[b]?)/\Touch w w' M M'/\HR w' A' M' B H'/\Rel w' A' M' v x
theorem xHd {v:Value} {x:AV} (h:Rel w A M v x) (hx:x.cells.all AV.one=true):∀ u,u∈v.cells.toList->u.oneCell'=true:=by
 intro u hu;obtain ⟨h1,h2⟩:=h.cells hx;obtain ⟨i,hi,rfl⟩:=zp.1 hu;have hi':i<x.cells.length:=by simp at hi;omega
 have:=h2 i hi';have e:v.cells.getD i undef=v.cells.toList[i]:=by simp at hi;simp [hi]
 rw [e] at this;refine this.oneCell ?_;rw [zI] at hx;exact hx _ (xau hi')
theorem xEs (hR:HR w A M B H) {o:Oper} {ρc:Operand->Value} {t:TypeId} {oa ov:Operand} {xa xv:AV} {H':List Box} (ho:o.op=.store t oa ov) (ha:Rel w A M (ρc oa) xa) (hv:Rel w A M (ρc ov) xv) (h:absStore P H t xa xv=some H') :
  Writes P o ρc w A M B (.tuple []) H':=by
 unfold absStore at h;split at h
 case h_2=>simp at h
 rename_i ti id ver i j aw;split at h
 case h_2=>simp at h
 rename_i bx ad;split at h
 case h_2=>simp at h
 rename_i e he;split at h
 case isFalse=>simp at h
 rename_i aq;obtain ⟨au,af,az,O⟩:=aq;cases h;obtain ⟨m,hm,q,an⟩:=xnP hR ha ad;obtain ⟨al,ao⟩:=xay ad;have Q:0<m.cap:=by
  have:=q.fits;have:0<bx.xs.length:=List.length_pos_of_mem (List.mem_of_getElem? he);omega
 obtain ⟨c,h1,h2,h3⟩:=q.cells Q
 replace h1:=h1.plain (q.nomap (xas O))
 replace h3:∀ i j,i<bx.xs.length->j<m.sz->Rel w A (MP M bx.pm) (c.getD (i*m.sz+j) undef) ((bx.xs.getD i .top).cells.getD j .top):=fun i j hi hj=>by
  have:=h3 i j hi hj;rw [xam O,xaO O] at this;exact this
 have hty':bx.ty=m.ty:=by rw [<-q.ty,xaS O]
 have aj:=xan af;have J:=xaF af;have ah:=xyH hv J;have ac:(ρc ov).cells.size=ti.sz:=by have:=ah.1;simp at this;omega
 have hi:i<bx.xs.length:=by
  rcases zJ i bx.xs.length with h'|h'
  . exact h'
  . simp [zz h'] at he
 have am:bx.xs.getD i .top=e:=by simp [z7,he]
 have ay:=xan (q.ok e (List.mem_of_getElem? he));have hsz:=q.sz;have ap:i*m.sz+m.sz<=c.size:=by
  rw [h2];have:(i+1)*m.sz<=m.cap*m.sz:=Nat.mul_le_mul_right _ (Nat.le_trans hi q.fits);rw [Nat.add_mul,Nat.one_mul] at this;exact this
 have Y:i*m.sz+j+(ρc ov).cells.toList.length<=c.toList.length:=by simp;omega
 have U:(putCells e j ti.sz bx.sz xv).cells.length=m.sz/\(∀ k,k<m.sz->(putCells e j ti.sz bx.sz xv).cells.getD k .top=if j<=k/\k<j+ti.sz then xv.cells.getD (k - j) .top else e.cells.getD k .top)/\(putCells e j ti.sz bx.sz xv).cells.all AV.one=true:=by
  unfold putCells;split
  . rename_i hw;obtain ⟨rfl,hw⟩:=hw;exact ⟨by omega,fun k hk=>by rw [if_pos (by omega)];simp,J⟩
  . have ab:min j e.cells.length=j:=by omega
    refine ⟨by rw [xkc];simp;omega,fun k hk=>?_,?_⟩
    . simp only [xkc,zw,z7,zP,zt,ab];by_cases Z:k<j
      . simp [Z,List.getElem?_take,show ¬ j<=k by omega]
      . by_cases ae:k<j+ti.sz
        . simp [Z,aj,show k - j<ti.sz by omega,ae,show j<=k by omega]
        . simp only [Z,if_false,aj,show ¬ (k - j<ti.sz) by omega,ae,and_false,List.getElem?_drop]
          congr 2;omega
    . have h5:=xaF (q.ok e (List.mem_of_getElem? he));rw [zI] at h5 J;simp only [xkc,List.all_append,zf,zI];exact ⟨⟨fun x hx=>h5 x (List.mem_of_mem_take hx),J⟩,fun x hx=>h5 x (List.mem_of_mem_drop hx)⟩
 have ai:=run_storeCells_at P m.b (i*m.sz+j) m.ty (ρc ov).cells.toList 0 c w h1 (by simp;omega) (xHd hv J)
 simp only [Nat.add_zero] at ai;obtain ⟨g1,g2,g3,g4,gt,g5⟩:=xoU (m':=m) (bx':=⟨ver,bx.sz,bx.ty,bx.xs.set i (putCells e j ti.sz bx.sz xv),false,bx.pm&&xv.pure⟩) hR Q hm al q O O au (c':=(xNM c.toList (i*m.sz+j) (ρc ov).cells.toList).toArray) rfl rfl rfl rfl (.inl rfl)
  (by rw [<-q.ver,<-ao]) hsz hty' rfl (by simpa using q.fits)
  (fun x hx=>by
   rcases List.mem_or_eq_of_mem_set hx with hx|rfl
   . exact q.ok x hx
   . simp only [AV.okElem,U.1,beq_self_eq_true,Bool.true_and];exact U.2.2)
  (by have:=xjn Y;simp at this |-;omega)
  (fun i' j' W V=>by
   simp at W;rw [xeF,xhn Y];have ag:(ρc ov).cells.toList.length=ti.sz:=by simpa using ac
   by_cases ak:i'=i
   . subst ak;have e1:(bx.xs.set i' (putCells e j ti.sz bx.sz xv)).getD i' .top=putCells e j ti.sz bx.sz xv:=by simp [z7,W]
     rw [e1,U.2.1 j' V,ag];by_cases aa:j<=j'/\j'<j+ti.sz
     . rw [if_pos (by omega),if_pos aa,show i'*m.sz+j' - (i'*m.sz+j)=j' - j by omega]
       exact (ah.2 _ (by omega)).mp fun hp=>xfu (xnQ (zf _ _▸hp).2) _
     . rw [if_neg (by omega),if_neg aa,xbO]
       have:=h3 i' j' W V;rw [am] at this;exact this.mp_and
   . have e1:(bx.xs.set i (putCells e j ti.sz bx.sz xv)).getD i' .top=bx.xs.getD i' .top:=by simp [z7,List.getElem?_set,show ¬ i=i' from fun h=>ak h.symm]
     rw [e1,ag,if_neg,xbO]
     . exact (h3 i' j' W V).mp_and
     . intro aa;rcases zJ i' i with ar|ax
       . have:i'*m.sz+j'<i*m.sz:=xc8 ar V;omega
       . have h6:(i+1)*m.sz<=i'*m.sz:=Nat.mul_le_mul_right _ (by omega)
         rw [Nat.add_mul,Nat.one_mul] at h6;omega)
 refine ⟨.skip,_,A,_,undef,?_,.inr ⟨rfl,rfl⟩,g4,g2,fun _ _=>Iff.rfl,g3,gt,g1,.tuple #[] [] rfl (by simp)⟩
 simp only [execOp,ho,an,Instr.storeAt,Instr.sureAddr,storeVar,Sem.run_bind,Sem.run_pure,Result.andThen_ok,xcM aw,ac,ne_eq,not_true,if_false];rw [ai];rfl
end
end Go.Sim
namespace Go.Sim
open Go.RowKit
section
variable {P : Program} {w : World} {A : Nat -> Prop} {M : Id -> Option MB} {B : Nat} {H : List Box}
theorem xz8 (hR:HR w A M B H) {sz:Nat} {v:Value} {x:AV} {ys:List AV} {pm:Bool} (hx:Rel w A M v x) (h:xNv H sz x=some (ys,pm)) :
  (ys=[]/\∃ a c,v=.slice a 0 c)\/∃ b o c,v=.slice (some ⟨b,o,none⟩) ys.length c/\(∀ y,y∈ys->y.okElem sz=true) /\
   ∀ i j,i<ys.length->j<sz->∃ u,w.cell? ⟨b,o+(i*sz+j),none⟩=some u/\Rel w A (MP M pm) u ((ys.getD i .top).cells.getD j .top):=by
 unfold xNv at h;split at h
 . simp only [z6,zb] at h;obtain ⟨rfl,rfl⟩:=h;cases hx;exact .inl ⟨rfl,none,0,rfl⟩
 . split at h
   case isFalse=>simp at h
   rename_i hs;subst hs;simp only [z6,zb] at h;obtain ⟨rfl,rfl⟩:=h;cases hx with
   | list0 a cap _=>exact .inl ⟨rfl,a,cap,rfl⟩
   | list b off cap _ _ val ha hb hne hcap hsz hc hr =>
    exact .inr ⟨b,off,cap,rfl,hsz,fun i j hi hj=>⟨val i j,by rw [<-Nat.add_assoc];exact hc i j hi hj,hr i j hi hj⟩⟩
 . rename_i id ver off len;split at h
   case h_2=>simp at h
   rename_i bx W;split at h
   case isFalse=>simp at h
   rename_i U;obtain ⟨hsz,Z,O⟩:=U;simp only [z6,zb] at h;obtain ⟨rfl,rfl⟩:=h;obtain ⟨m,a,hm,q,Y,rfl,ha⟩:=xjg hR hx W;have Q:m.sz=sz:=by rw [<-q.sz,hsz]
   have J:((bx.xs.drop off).take len).length=len:=by simp;omega
   by_cases hz:len=0
   . subst hz;exact .inl ⟨by simp,a,_,rfl⟩
   . have V:=ha (by omega);subst V
     refine .inr ⟨m.b,off*m.sz,m.cap - off,by rw [J],fun y hy=>by rw [<-Q];exact q.ok y (List.mem_of_mem_drop (List.mem_of_mem_take hy)),fun i j hi hj=>?_⟩
     rw [J] at hi;rw [<-Q] at hj |-;have:=q.cell' (q.nomap (xas O)) (show off+i<bx.xs.length by omega) hj
     rw [xam O,xaO O] at this;rw [Nat.add_mul,Nat.add_assoc] at this;have hg:((bx.xs.drop off).take len).getD i .top=bx.xs.getD (off+i) .top:=by
      simp [z7,List.getElem?_take,hi,List.getElem?_drop]
     rwa [hg]
 . simp at h
theorem xtk {t ty e:TypeId} {i:TypeInfo} (ht:P.underlying t=some (.slice e)) (hi:P.info? e=some i) (b:Option Addr) (len cap:Nat) (q:len<=cap) (a:Option Addr) (c:Nat) :
  (Builtin.append_ #[t,t] ty #[.slice b len cap,.slice a 0 c]).run P w=.ok (.slice b len cap) w:=by
 cases a<;>cases b<;>simp [Builtin.append_,run_underlying ht,sizeOf,typeInfo,hi,Builtin.lenOf,Builtin.firstCells,loadCells,loadCellsFrom,q,storeCells]
def xNj (w:World) (b o n:Nat):List Value:=(List.range n).map fun k=>(w.cell? ⟨b,o+k,none⟩).getD undef
theorem xih (w:World) (b o n:Nat):(xNj w b o n).length=n:=by simp [xNj]
theorem xB5 {b o n k:Nat} (hk:k<n):(xNj w b o n).getD k undef=(w.cell? ⟨b,o+k,none⟩).getD undef:=by
 simp [xNj,z7,hk]
theorem xAQ {k n sz:Nat} (hk:k<n*sz):k / sz<n:=Nat.div_lt_of_lt_mul (by rwa [Nat.mul_comm])
section src
variable {ys : List AV} {sz b o : Nat} (hsz : 0 < sz) (hs : ∀ i j, i < ys.length -> j < sz -> ∃ u, w.cell? ⟨b, o + (i * sz + j), none⟩ = some u /\ Rel w A M u ((ys.getD i .top).cells.getD j .top))
include hsz hs
theorem xDB {k:Nat} (hk:k<ys.length*sz):∃ u,w.cell? ⟨b,o+k,none⟩=some u/\Rel w A M u ((ys.getD (k / sz) .top).cells.getD (k % sz) .top):=by
 have:=hs (k / sz) (k % sz) (xAQ hk) (Nat.mod_lt _ hsz);rwa [Nat.mul_comm,Nat.div_add_mod] at this
theorem xyW (j:Nat) (u:Value) (h:(xNj w b o (ys.length*sz))[j]?=some u):w.cell? ((⟨b,o,none⟩:Addr).add j)=some u:=by
 have hj:j<ys.length*sz:=by
  rcases zJ j (ys.length*sz) with h'|h'
  . exact h'
  . rw [zz (by rw [xih];exact h')] at h;simp at h
 obtain ⟨u',hu,_⟩:=xDB hsz hs hj;rw [xfY,hu];simp [xNj,hj,hu] at h;rw [h]
omit hsz in
theorem xKo {i j:Nat} (hi:i<ys.length) (hj:j<sz):Rel w A M ((xNj w b o (ys.length*sz)).getD (i*sz+j) undef) ((ys.getD i .top).cells.getD j .top):=by
 obtain ⟨u,hu,hr⟩:=hs i j hi hj;rw [xB5 (xc8 hi hj),hu];exact hr
theorem xKn (q:∀ y,y∈ys->y.okElem sz=true):∀ u,u∈xNj w b o (ys.length*sz)->u.oneCell'=true:=by
 intro u hu;obtain ⟨k,hk,rfl⟩:=zp.1 hu;have hk':k<ys.length*sz:=by rwa [xih] at hk
 obtain ⟨u',J,hr⟩:=xDB hsz hs hk';have e:(xNj w b o (ys.length*sz))[k]=u':=by simp [xNj,J]
 rw [e];have hi:=xAQ hk';have h1:=xaF (q _ (xau hi));have hl:=xan (q _ (xau hi));rw [zI] at h1;exact hr.oneCell (h1 _ (xau (by rw [hl];exact Nat.mod_lt _ hsz)))
end src
theorem xy3 {xs ys:List AV} {c:List Value} {sz:Nat} {news:List Value} (hn:news.length=ys.length*sz)
  (Q:∀ i j,i<xs.length->j<sz->Rel w A M (c.getD (i*sz+j) undef) ((xs.getD i .top).cells.getD j .top))
  (O:∀ i j,i<ys.length->j<sz->Rel w A M (news.getD (i*sz+j) undef) ((ys.getD i .top).cells.getD j .top))
  {c':List Value} (h1:∀ k,k<xs.length*sz->c'.getD k undef=c.getD k undef) (h2:∀ k,k<ys.length*sz->c'.getD (xs.length*sz+k) undef=news.getD k undef) :
  ∀ i j,i<(xs++ys).length->j<sz->Rel w A M (c'.getD (i*sz+j) undef) (((xs++ys).getD i .top).cells.getD j .top):=by
 intro i j hi hj;by_cases q:i<xs.length
 . have e:(xs++ys).getD i .top=xs.getD i .top:=by simp [z7,zP,q]
   rw [e,h1 _ (xc8 q hj)];exact Q i j q hj
 . have e:(xs++ys).getD i .top=ys.getD (i - xs.length) .top:=by simp [z7,zP,q]
   have J:i - xs.length<ys.length:=by simp at hi;omega
   have e2:i*sz+j=xs.length*sz+((i - xs.length)*sz+j):=by
    rw [<-Nat.add_assoc,<-Nat.add_mul,show xs.length+(i - xs.length)=i by omega]
   rw [e,e2,h2 _ (xc8 J hj)];exact O _ j J hj
theorem xvj {xs ys:List AV} {sz:Nat} (hx:∀ x,x∈xs->x.okElem sz=true) (hy:∀ x,x∈ys->x.okElem sz=true):∀ x,x∈xs++ys->x.okElem sz=true:=fun x q=>by
 rcases zG.1 q with h|h
 . exact hx x h
 . exact hy x h
theorem HR.drew (hR:HR w A M B H):HR w.drew A M B H:=hR.grow ⟨rfl,rfl,rfl,zd _,fun _ _=>rfl⟩
theorem HR.ext {H':List Box} (hR:HR w A M B H) (h:∀ n,n<H.length->(∃ id m,id.base=n/\M id=some m)->H'[n]?=H[n]?):HR w A M B H' :=
 ⟨fun id m hm=>by
  obtain ⟨bx,h1,h2⟩:=hR.box id m hm;exact ⟨bx,by rw [xnI (h id.base (xo8 h1) ⟨id,m,rfl,hm⟩)];exact h1,h2⟩,hR.inj,hR.lt⟩
theorem HR.append (hR:HR w A M B H) (l:List Box):HR w A M B (H++l) :=
 hR.ext fun n hn _=>zO hn
theorem HR.none_of_base (hR:HR w A M B H) {id:Id} (h:H.length<=id.base):M id=none:=by
 cases hm:M id with
 | none=>rfl
 | some m =>
  obtain ⟨bx,h1,_⟩:=hR.box id m hm;have:=xo8 h1;omega
theorem HR.none_of_length (hR:HR w A M B H) {n:Nat} (h:H.length<=n):M (.b n)=none:=hR.none_of_base (id:=.b n) h
theorem HR.free_of_length (hR:HR w A M B H) {n:Nat} (h:H.length<=n):Free M n:=⟨hR.none_of_base (id:=.b n) h,fun i j=>hR.none_of_base (id:=.r n i j) h⟩
set_option maxHeartbeats 1000000 in
structure Mv (w:World) (A:Nat->Prop) (M:Id->Option MB) (w':World) (A':Nat->Prop) (M':Id->Option MB):Prop where
 size:w.heap.size<=w'.heap.size
 keep:∀ b,b<w.heap.size->¬ A b->w'.heap[b]?=w.heap[b]?
 less:∀ b,b<w.heap.size->A' b->A b
 more:∀ b,b<w.heap.size->A b->(∀ id m,M id=some m->0<m.cap->m.b≠b)->A' b
 ext:MExt M M'
 touch:Touch w w' M M'
theorem Mv.rel {w w':World} {A A':Nat->Prop} {M M':Id->Option MB} (h:Mv w A M w' A' M') {v:Value} {x:AV} (hr:Rel w A M v x):Rel w' A' M' v x :=
 hr.mono h.keep h.size h.less h.ext
theorem HR.virt {w:World} {A:Nat->Prop} {M:Id->Option MB} {B:Nat} {H:List Box} (hR:HR w A M B H) (sz:Nat) (ty:TypeId) (pm:Bool) :
  HR w A (MPut M H.length ⟨0,0,sz,0,rty ty⟩) B (H++[⟨0,sz,ty,[],false,pm⟩])/\Mv w A M w A (MPut M H.length ⟨0,0,sz,0,rty ty⟩)/\∀ a,Rel w A (MPut M H.length ⟨0,0,sz,0,rty ty⟩) (.slice a 0 0) (.osl H.length 0 0 0):=by
 have hn:Free M H.length:=hR.free_of_length (zd _);have O:MExt M (MPut M H.length ⟨0,0,sz,0,rty ty⟩):=xsc hn _;have q:∀ id m',MPut M H.length ⟨0,0,sz,0,rty ty⟩ id=some m'->0<m'.cap->M id=some m':=fun id m' hm h0=>by
  by_cases J:id=.b H.length
  . subst J;simp [MPut] at hm;subst hm;exact absurd h0 (by simp)
  . simpa [MPut,J] using hm
 refine ⟨⟨fun id m' Q=>?_,fun id id' m1 m2 h1 h2 c1 c2 he=>hR.inj id id' m1 m2 (q id m1 h1 c1) (q id' m2 h2 c2) c1 c2 he,hR.lt⟩,⟨zd _,fun _ _ _=>rfl,fun _ _ h=>h,fun _ _ h _=>h,O,⟨fun _ _ _=>rfl,fun id m' hm h0=>.inl ⟨id,m',q id m' hm h0,h0,rfl⟩⟩⟩,fun a=>?_⟩
 . by_cases J:id=.b H.length
   . subst J;have:m'=⟨0,0,sz,0,rty ty⟩:=by simp [MPut] at Q;exact Q.symm
     subst this;have hc:∀ {p:Prop},0<(0:Nat)->p:=fun h=>absurd h (by simp)
     exact ⟨⟨0,sz,ty,[],false,pm⟩,by simp [getB],rfl,rfl,rfl,zQ _,zQ _,fun x hx=>by simp at hx,hc,hc,hc,hc⟩
   . have U:M id=some m':=by simpa [MPut,J] using Q
     obtain ⟨bx,g1,g2⟩:=hR.box id m' U;exact ⟨bx,xwX g1,g2.mono (fun _=>rfl) (fun _ _ _=>rfl) (zd _) (fun _ _ h=>h) g2.guard O⟩
 . exact .osl _ H.length 0 0 0 ⟨0,0,sz,0,rty ty⟩ (by simp [MPut]) (zd _) rfl fun _=>⟨by simp,a,by simp,fun h=>by simp at h⟩
structure ARuns (P:Program) (w:World) (t tt ty e:TypeId) (i:TypeInfo) (z v:Value) (n:Nat) (news:List Value):Prop where
 nil:(n:Int)<=9223372036854775807->n*i.bytes<=281474976710656->(Builtin.append_ #[t,tt] ty #[.slice none 0 0,v]).run P w =
  .ok (.slice (some ⟨w.heap.size,0,none⟩) n (grownCap w n 0 e)) (w.drew.alloc (.cells (news.toArray++Builtin.zeroCells z.cells (grownCap w n 0 e - n)) e))
 grow:∀ (b:Addr) (sLen sCap:Nat) (olds:List Value),olds.length=sLen*i.size->(∀ j u,olds[j]?=some u->w.cell? (b.add j)=some u)->sCap<sLen+n->((sLen+n:Nat):Int)<=9223372036854775807 ->
  Builtin.nextslicecap (sLen+n) sCap*i.bytes<=281474976710656->(Builtin.append_ #[t,tt] ty #[.slice (some b) sLen sCap,v]).run P w =
   .ok (.slice (some ⟨w.heap.size,0,none⟩) (sLen+n) (grownCap w (sLen+n) sCap e))
    (w.drew.alloc (.cells (olds.toArray++news.toArray++Builtin.zeroCells z.cells (grownCap w (sLen+n) sCap e - (sLen+n))) e))
 room:∀ (g sLen sCap:Nat) (cur:Array Value),w.heap[g]?=some (.cells cur e (0,0))->sLen+n<=sCap->sLen*i.size+news.length<=cur.size ->
  (Builtin.append_ #[t,tt] ty #[.slice (some ⟨g,0,none⟩) sLen sCap,v]).run P w =
   .ok (.slice (some ⟨g,0,none⟩) (sLen+n) sCap) (w.setRow g (cur.toList.take (sLen*i.size)++news++cur.toList.drop (sLen*i.size+news.length)).toArray)
def ASrc (P:Program) (w:World) (A:Nat->Prop) (M:Id->Option MB) (t tt ty e:TypeId) (sz:Nat) (v:Value) (ys:List AV) (pm:Bool):Prop :=
 (ys=[]/\∀ b len cap,len<=cap->(Builtin.append_ #[t,tt] ty #[.slice b len cap,v]).run P w=.ok (.slice b len cap) w) \/
 (0<ys.length/\(∀ y,y∈ys->y.okElem sz=true)/\∃ news:List Value,news.length=ys.length*sz /\
  (∀ i j,i<ys.length->j<sz->Rel w A (MP M pm) (news.getD (i*sz+j) undef) ((ys.getD i .top).cells.getD j .top)) /\
  ∀ i z,P.info? e=some i->i.zero=some z->i.size=sz->ARuns P w t tt ty e i z v ys.length news)
theorem xFz (hR:HR w A M B H) {t ty e:TypeId} {sz:Nat} (J:0<sz) (hu:P.underlying t=some (.slice e)) {i0:TypeInfo} (V:P.info? e=some i0) {v:Value} {x:AV} {ys:List AV} {pm:Bool} (hx:Rel w A M v x) (h:xNv H sz x=some (ys,pm)) :
  ASrc P w A M t t ty e sz v ys pm:=by
 rcases xz8 hR hx h with ⟨he,a,cc,U⟩|⟨b,off,cc,U,W,q⟩
 . subst U;exact .inl ⟨he,fun b len cap Q=>xtk hu V b len cap Q a cc⟩
 . subst U;rcases Nat.eq_zero_or_pos ys.length with O|O
   . rw [O];exact .inl ⟨zA O,fun b' len cap Q=>xtk hu V b' len cap Q _ cc⟩
   . refine .inr ⟨O,W,xNj w b off (ys.length*sz),xih _ _ _ _,fun i j hi hj=>xKo q hi hj,fun i z hi hz hs=>⟨fun h1 h2=>?_,fun b' sLen sCap olds h1 h2 h3 h4 h5=>?_,fun g sLen sCap cur h1 h2 h3=>?_⟩⟩
     . exact run_append_nil (P:=P) w t ty e i z hu hi hz ⟨b,off,none⟩ ys.length cc _ (by rw [xih,hs]) (xyW J q) O h1 h2
     . exact run_append_grow (P:=P) w t ty e i z hu hi hz b' sLen sCap olds h1 h2 ⟨b,off,none⟩ ys.length cc _ (by rw [xih,hs]) (xyW J q) h3 h4 h5
     . exact run_append_room (P:=P) w t ty e i hu hi g sLen sCap cur h1 ⟨b,off,none⟩ ys.length cc _ (by rw [xih,hs]) (xyW J q) (xKn J q W) h2 h3
theorem xuw (w:World) (t u ty e:TypeId) (i:TypeInfo) (z:Value) (ht:P.underlying t=some (.slice e)) (hu:P.underlying u=some .string) (hi:P.info? e=some i) (hz:i.zero=some z) (s:ByteArray)
  (h0:0<s.size) (J:(s.size:Int)<=9223372036854775807) (q:s.size*i.bytes<=281474976710656) :
  (Builtin.append_ #[t,u] ty #[.slice none 0 0,.string s]).run P w =
   .ok (.slice (some ⟨w.heap.size,0,none⟩) s.size (grownCap w s.size 0 e)) (w.drew.alloc (.cells ((Lib.strCells s).toArray++Builtin.zeroCells z.cells (grownCap w s.size 0 e - s.size)) e)):=by
 have hn:s.size≠0:=by omega
 have h63':¬ (9223372036854775807<(s.size:Int)):=by omega
 have h48':¬ (281474976710656<Builtin.nextslicecap s.size 0*i.bytes):=by rw [nextslicecap_zero h0];omega
 have hf:=Lib.run_firstCells_string (P:=P) w.drew i.size s;simp [Builtin.append_,run_underlying ht,run_underlying hu,sizeOf,typeInfo,zeroValue,hi,hz,Builtin.lenOf,hn,h63',h48',Question.forced,run_firstCells_none,hf,newRow,grownCap]
theorem xtZ {t u ty e:TypeId} {i:TypeInfo} (ht:P.underlying t=some (.slice e)) (hu:P.underlying u=some .string) (hi:P.info? e=some i) (b:Option Addr) (len cap:Nat) (q:len<=cap) (s:ByteArray) (h0:s.size=0) :
  (Builtin.append_ #[t,u] ty #[.slice b len cap,.string s]).run P w=.ok (.slice b len cap) w:=by
 have hf:=Lib.run_firstCells_string (P:=P) w i.size s;rw [h0] at hf;have he:Lib.strCells s=[]:=zA (by rw [Lib.strCells_length,h0])
 rw [he] at hf;cases b<;>simp [Builtin.append_,run_underlying ht,run_underlying hu,sizeOf,typeInfo,hi,Builtin.lenOf,h0,q,hf,storeCells]
theorem xIp {t tt ty e:TypeId} (hu:P.underlying t=some (.slice e)) (J:P.underlying tt=some .string) {i0:TypeInfo} (O:P.info? e=some i0) (s:ByteArray) :
  ASrc P w A M t tt ty e 1 (.string s) (s.data.toList.map fun (u:UInt8)=>.int .u8 u.toNat) true:=by
 have hsz:(s.data.toList.map fun (u:UInt8)=>AV.int .u8 u.toNat).length=s.size:=by rw [za,Array.length_toList];rfl
 rcases Nat.eq_zero_or_pos s.size with q|q
 . exact .inl ⟨zA (by rw [hsz,q]),fun b len cap U=>xtZ hu J O b len cap U s q⟩
 . refine .inr ⟨by rw [hsz];exact q,fun y hy=>?_,Lib.strCells s,by rw [Lib.strCells_length,hsz,Nat.mul_one],fun i j hi hj=>?_,fun i z hi hz hs=>⟨fun h1 h2=>?_,fun b' sLen sCap olds h1 h2 h3 h4 h5=>?_,fun g sLen sCap cur h1 h2 h3=>?_⟩⟩
   . obtain ⟨u,_,rfl⟩:=zK.1 hy;rfl
   . have Q:j=0:=by omega
     subst Q;rw [hsz] at hi;have hi':i<s.data.toList.length:=by rw [Array.length_toList];exact hi
     simp only [Nat.mul_one,Nat.add_zero,z7,List.getElem?_map,ze hi',Option.map_some,zh];have hc:(Lib.strCells s)[i]?=some (.int .u8 (s.data.toList[i].toNat:Int)):=by
      simp [Lib.strCells,List.getElem?_map,ze hi']
     rw [hc];exact .int _ _
   . rw [hsz] at h1 h2 |-;exact xuw w t tt ty e i z hu J hi hz s q h1 h2
   . rw [hsz] at h3 h4 h5 |-;exact Lib.run_append_grow_string (P:=P) w t tt ty e i z hu J hi hz b' sLen sCap olds h1 h2 s h3 h4 h5
   . rw [hsz] at h2 |-;rw [hs,Nat.mul_one,Lib.strCells_length] at h3 |-;exact Lib.run_append_room_string (P:=P) w t tt ty e i hu J hi hs g sLen sCap cur h1 s h2 h3
theorem xr1 (hR:HR w A M B H) {t tt ty e:TypeId} {te:TI} (U:xMU P e=some te) (O:0<te.sz) (hu:P.underlying t=some (.slice e)) {i0:TypeInfo} (J:P.info? e=some i0) {v:Value} {x:AV} {ys:List AV} {pm:Bool} (hx:Rel w A M v x) (h:absSrc P H t tt e te.sz x=some (ys,pm)) :
  ASrc P w A M t tt ty e te.sz v ys pm:=by
 unfold absSrc at h;split at h
 . rename_i Y;subst Y;exact xFz hR O hu J hx h
 . split at h
   case h_2=>simp at h
   rename_i tj Z s Q q;split at h
   case h_2=>simp at h
   rename_i W aa;split at h
   case isFalse=>simp at h
   rename_i hsz;rw [U] at q;obtain rfl:=(z6 _ _).mp q;simp only [z6,zb] at h;obtain ⟨rfl,rfl⟩:=h;have V:P.underlying tt=some .string:=by rw [xlo Q,W]
   cases hx with
   | str s =>
    rw [hsz];exact xIp hu V J s
theorem xDT (hR:HR w A M B H) (hB:B<=w.heap.size) {o:Oper} {ρc:Operand->Value} {c:Call} {t tt e:TypeId} {te:TI} {os ox:Operand} {xs r:AV} {ys:List AV} {pm:Bool} {H':List Box} (ho:o.op=.call c) (b7:c.callee=.builtin .append)
  (ce:c.argTypes.toList=[t,tt]) (cf:c.args.toList=[os,ox]) (hs:Rel w A M (ρc os) xs) (bz:xMU P e=some te) (hu:P.underlying t=some (.slice e))
  (ag:∀ v,v=ρc ox->ASrc P w A M t tt o.type e te.sz v ys pm) (h:absApp H e te xs ys pm=some (r,H')) :
  Writes P o ρc w A M B r H':=by
 unfold absApp at h;obtain ⟨i,z,aw,ck,a1,ai,a9,bo,_⟩:=xaV bz;have ae:isC e=false:=xl3 bz;have hts':c.argTypes=#[t,tt]:=by apply Array.ext';simpa using ce
 have has':c.args=#[os,ox]:=by apply Array.ext';simpa using cf
 have W:∀ v w',(Builtin.append_ #[t,tt] o.type #[ρc os,ρc ox]).run P w=.ok v w'->(execOp ρc o).run P w=.ok (.value v) w':=by
  intro v w' hv;simp [execOp,ho,resolve,b7,hts',has',invoke,builtin,hv,Go.resolve]
 replace ag:=ag _ rfl
 split at h
 ·
  have ad:ρc os=.slice none 0 0:=by
   generalize ρc os=v at hs;cases hs;rfl
  rw [ad] at W;split at h
  case isFalse=>simp at h
  rename_i bm;obtain ⟨b3,a7,bn,Z⟩:=bm;simp only [z6,zb] at h;obtain ⟨rfl,rfl⟩:=h;rcases ag with ⟨rfl,a2⟩|⟨b6,ac,news,Q,ar,U⟩
  . obtain ⟨g1,g2,g3⟩:=hR.virt te.sz e pm;exact ⟨_,w,A,_,.slice none 0 0,W _ _ (a2 none 0 0 (zd _)),.inl rfl,Below.refl _ _,g2.ext,fun _ _=>Iff.rfl,fun _ _ _=>rfl,g2.touch,g1,g3 none⟩
  have cl:ys.length<=4611686018427387904:=bn;have a3:Rel w A M z te.zero:=by rw [bo];exact xcL w A M z
  obtain ⟨bw,_⟩:=a3.cells (xaF Z);have b0:=xan Z;have q:=(U i z aw a1 ai.symm).nil (by omega) (by rw [<-a9];omega)
  have ab:=grownCap_ge w ys.length 0 e;have af:=grownCap_le_maxLen w ys.length 0 e (by unfold maxLen;omega)
  generalize hcap:grownCap w ys.length 0 e=cap at q ab af;have cm:H.length<(H++[(⟨0,te.sz,e,ys,false,pm⟩:Box)]).length:=by simp
  have hR':HR w.drew A M B (H++[⟨0,te.sz,e,ys,false,pm⟩]):=hR.drew.append _;have ah:(Builtin.zeroCells z.cells (cap - ys.length)).size=(cap - ys.length)*te.sz:=by rw [size_zeroCells];congr 1;omega
  have cg:=xrJ (bx:=⟨0,te.sz,e,ys,false,pm⟩) (nid:=H.length) (c:=news.toArray++Builtin.zeroCells z.cells (cap - ys.length)) (cap:=cap) hR' (by simpa using hB) (hR.free_of_length (zd _)) ae (by simp) af
   (by rw [Array.size_append,List.size_toArray,Q,ah,<-Nat.add_mul];congr 1;omega) ab ac
   (fun i' j aa hj=>by
    have hk:i'*te.sz+j<ys.length*te.sz:=xc8 aa hj;have e1:(news.toArray++Builtin.zeroCells z.cells (cap - ys.length)).getD (i'*te.sz+j) undef=news.getD (i'*te.sz+j) undef:=by
     simp only [zu,Array.getElem?_append,List.size_toArray,Q,hk,if_true,List.getElem?_toArray,z7]
    rw [e1];exact (ar _ _ aa hj).grow ⟨rfl,rfl,rfl,zd _,fun _ _=>rfl⟩)
  obtain ⟨s1,s2,s3,s4,s5⟩:=cg;have J:Below w.heap.size w (w.drew.alloc (.cells (news.toArray++Builtin.zeroCells z.cells (cap - ys.length)) e)):=((Below.refl _ _).drew).alloc (by simp) _
  exact ⟨_,_,_,_,_,W _ _ q,.inl rfl,J.mono hB,s1,s2,fun b hb _=>J.block b hb,.of_new J (fun id m' ao=>by
   by_cases bp:id=.b H.length
   . subst bp;exact s3.2 m' ao
   . rw [s3.1 id bp] at ao;exact .inl ao),s4,.osl _ H.length 0 0 ys.length _ s5 (zd _) rfl fun _=>⟨by simpa using ab,some ⟨w.heap.size,0,none⟩,by simp,fun _=>by simp⟩⟩
 . rename_i id ver off len;split at h
   case h_2=>simp at h
   rename_i bx bq;split at h
   case isFalse=>simp at h
   rename_i bm;obtain ⟨rfl,al,b8,hsz,b9,b3,a7,bn,Z⟩:=bm;simp only [z6,zb] at h;obtain ⟨rfl,rfl⟩:=h;have an:isC bx.ty=false:=by rw [b9];exact ae
   obtain ⟨m,a,hm,V,bb,ad,ha⟩:=xjg hR hs bq;obtain ⟨a4,cd⟩:=xay bq;simp only [Nat.sub_zero,zH] at ad bb;have am:m.sz=te.sz:=by rw [<-V.sz,hsz]
   have bk:m.ty=e:=by rw [<-V.ty,xaS an,b9]
   have bc:m.ver=ver:=by rw [<-V.ver,cd]
   have ci:len+ys.length<=4611686018427387904:=bn;have ax:∀ (c1:Array Value) (cap:Nat),c1.size=cap*te.sz->len+ys.length<=cap->cap<=maxLen->(∀ y,y∈ys->y.okElem te.sz=true) ->
     (∀ i j,i<(bx.xs++ys).length->j<te.sz->Rel w A (MP M (bx.pm&&pm)) (c1.getD (i*te.sz+j) undef) (((bx.xs++ys).getD i .top).cells.getD j .top)) ->
     (Builtin.append_ #[t,tt] o.type #[ρc os,ρc ox]).run P w=.ok (.slice (some ⟨w.heap.size,0,none⟩) (len+ys.length) cap) (w.drew.alloc (.cells c1 e)) ->
     Writes P o ρc w A M B (.osl id (ver+1) 0 (len+ys.length)) (H.set id ⟨ver+1,te.sz,e,bx.xs++ys,false,bx.pm&&pm⟩):=by
    intro c1 cap az ab af ac bu q;have J:Below w.heap.size w (w.drew.alloc (.cells c1 e)):=((Below.refl _ _).drew).alloc (by simp) _
    let m1:MB:=⟨w.heap.size,ver+1,te.sz,cap,e⟩;have ay:MExt M (MSet M id m1):=xsd hm (.inr (by simp [m1,bc]))
    have hA:∀ b,b<w.heap.size->(APut A w.heap.size false b->A b):=fun b hb h=>by
     rcases h with h|⟨h,_⟩
     . exact h
     . omega
    have a6:∀ u x,Rel w A (MP M (bx.pm&&pm)) u x->Rel (w.drew.alloc (.cells c1 e)) (APut A w.heap.size false) (MP (MSet M id m1) (bx.pm&&pm)) u x:=fun u x hr=>hr.mono (fun b hb _=>J.block b hb) J.size hA (xwB ay _)
    refine ⟨_,_,APut A w.heap.size false,MSet M id m1,_,W _ _ q,.inl rfl,J.mono hB,ay,fun b hb=>⟨hA b hb,.inl⟩,fun b hb _=>J.block b hb,.of_new J (fun i m' ao=>?_),⟨?_,?_,?_⟩,.osl _ id (ver+1) 0 (len+ys.length) m1 (by simp [MSet]) (zd _) rfl fun _=>⟨by simpa [m1] using ab,some ⟨w.heap.size,0,none⟩,by simp [m1],fun _=>by simp [m1]⟩⟩
    . by_cases au:i=id
      . subst au;have:m'=m1:=by simp [MSet] at ao;exact ao.symm
        subst this;exact .inr (zd _)
      . exact .inl (by simpa [MSet,au] using ao)
    . intro i' m2 aj;by_cases au:i'=id
      . subst au;have:m2=m1:=by simp [MSet] at aj;exact aj.symm
        subst this;refine ⟨_,by rw [xbz,zL (xcG a4)],⟨rfl,rfl,xaS ae,af,by simp [m1];omega,xvj (fun x hx=>by have:=V.ok x hx;rwa [am] at this) ac,fun _=>by simpa [m1] using hB,fun _=>by simp [m1],fun _=>⟨c1,.of (xas ae) (by simpa [m1] using heap_alloc_new w.drew (.cells c1 e)),by simpa [m1] using az,?_⟩,fun _=>⟨fun _=>.inr ⟨rfl,rfl⟩,fun _=>rfl⟩⟩⟩
        intro i j hi hj;rw [xam ae,xaO ae];exact a6 _ _ (bu i j hi hj)
      . have aq:M i'=some m2:=by simpa [MSet,au] using aj
        obtain ⟨bi,g1,g2⟩:=hR.box i' m2 aq;exact ⟨bi,by rw [xdn a4 an ae au];exact g1,g2.mono (fun h0=>J.block _ (g2.lt h0)) (fun b hb _=>J.block b hb) J.size hA (fun h0=>⟨fun hf=>.inl ((g2.guard h0).1 hf),fun hf=>(g2.guard h0).2 (hA _ (g2.lt h0) hf)⟩) ay⟩
    . intro i' a5 m2 m3 aj aq bt b5 he;by_cases aa:i'=id<;>by_cases ap:a5=id
      . rw [aa,ap]
      . exfalso;have g1:m2=m1:=by simp [MSet,aa] at aj;exact aj.symm
        have g2:M a5=some m3:=by simpa [MSet,ap] using aq
        obtain ⟨bi,_,g3⟩:=hR.box a5 m3 g2;have:=g3.lt b5;rw [<-he,g1] at this;simp [m1] at this
      . exfalso;have g1:m3=m1:=by simp [MSet,ap] at aq;exact aq.symm
        have g2:M i'=some m2:=by simpa [MSet,aa] using aj
        obtain ⟨bi,_,g3⟩:=hR.box i' m2 g2;have:=g3.lt bt;rw [he,g1] at this;simp [m1] at this
      . exact hR.inj i' a5 m2 m3 (by simpa [MSet,aa] using aj) (by simpa [MSet,ap] using aq) bt b5 he
    . intro b hb;rcases hb with hb|⟨rfl,_⟩
      . have:=hR.lt b hb;simp;omega
      . simp
   rcases Nat.eq_zero_or_pos m.cap with O|O
   ·
    have bv:bx.xs=[]:=zA (by omega)
    have cc:len=0:=by omega
    subst cc;rw [O] at ad;rcases ag with ⟨rfl,a2⟩|⟨b6,ac,news,Q,ar,U⟩
    . obtain ⟨g1,g2,g3⟩:=xHb (m':=⟨m.b,ver+1,m.sz,m.cap,m.ty⟩) (bx':=⟨ver+1,te.sz,e,bx.xs++[],false,bx.pm&&pm⟩) hR O hm a4 an ae rfl rfl (.inr (by simp [bc])) rfl am.symm bk.symm (by simp [bv])
      exact ⟨_,_,A,_,_,W _ _ (by rw [ad];simpa using a2 a 0 0 (zd _)),.inl rfl,Below.refl _ _,g2,fun _ _=>Iff.rfl,fun _ _ _=>rfl,g3,g1,.osl _ id (ver+1) 0 0 ⟨m.b,ver+1,m.sz,m.cap,m.ty⟩ (by simp [MSet]) (zd _) rfl fun _=>⟨by simp,a,by simp [O],fun h=>by simp at h;omega⟩⟩
    . have a3:Rel w A M z te.zero:=by rw [bo];exact xcL w A M z
      obtain ⟨bw,_⟩:=a3.cells (xaF Z);have b0:=xan Z;have ab:=grownCap_ge w (0+ys.length) 0 e;have af:=grownCap_le_maxLen w (0+ys.length) 0 e (by unfold maxLen;omega)
      have ah:(Builtin.zeroCells z.cells (grownCap w (0+ys.length) 0 e - ys.length)).size=(grownCap w (0+ys.length) 0 e - ys.length)*te.sz:=by rw [size_zeroCells];congr 1;omega
      refine ax (news.toArray++Builtin.zeroCells z.cells (grownCap w (0+ys.length) 0 e - ys.length)) (grownCap w (0+ys.length) 0 e) (by rw [Array.size_append,List.size_toArray,Q,ah,<-Nat.add_mul];congr 1;omega) ab af ac (fun i' j aa hj=>?_) ?_
      . rw [bv,zU] at aa |-;have hk:i'*te.sz+j<ys.length*te.sz:=xc8 aa hj;have e1:(news.toArray++Builtin.zeroCells z.cells (grownCap w (0+ys.length) 0 e - ys.length)).getD (i'*te.sz+j) undef=news.getD (i'*te.sz+j) undef:=by
         simp only [zu,Array.getElem?_append,List.size_toArray,Q,hk,if_true,List.getElem?_toArray,z7]
        rw [e1];exact (ar _ _ aa hj).mp_and'
      . rw [ad];cases a with
        | none =>
         have q:=(U i z aw a1 ai.symm).nil (by omega) (by rw [<-a9];simp at a7;omega)
         simpa using q
        | some a =>
         have q:=(U i z aw a1 ai.symm).grow a 0 0 [] (by simp) (by simp) (by omega) (by omega) (growslice_fits (by omega) (by rw [<-a9];exact a7))
         simpa using q
   have ch:=ha O;subst ch;simp only [Nat.zero_mul] at ad;obtain ⟨c0,h1,h2,h3⟩:=V.cells O
   replace h1:=h1.plain (V.nomap (xas an))
   replace h3:∀ i j,i<bx.xs.length->j<m.sz->Rel w A (MP M bx.pm) (c0.getD (i*m.sz+j) undef) ((bx.xs.getD i .top).cells.getD j .top):=fun i j hi hj=>by
    have:=h3 i j hi hj;rw [xam an,xaO an] at this;exact this
   have cj:A m.b:=(V.guard O).1 b8;rw [am] at h2 h3;rw [bk] at h1;have ak:∀ (news:List Value),news.length=ys.length*te.sz->(∀ y,y∈ys->y.okElem te.sz=true)->len+ys.length<=m.cap ->
     (∀ i j,i<ys.length->j<te.sz->Rel w A (MP M pm) (news.getD (i*te.sz+j) undef) ((ys.getD i .top).cells.getD j .top)) ->
     (Builtin.append_ #[t,tt] o.type #[ρc os,ρc ox]).run P w=.ok (.slice (some ⟨m.b,0,none⟩) (len+ys.length) m.cap) (w.setRow m.b (xNM c0.toList (len*te.sz) news).toArray) ->
     Writes P o ρc w A M B (.osl id (ver+1) 0 (len+ys.length)) (H.set id ⟨ver+1,te.sz,e,bx.xs++ys,false,bx.pm&&pm⟩):=by
    intro news Q ac Y b1 q;have a0:len*te.sz+news.length<=c0.toList.length:=by
     have cb:c0.toList.length=m.cap*te.sz:=by simpa using h2
     rw [Q,<-Nat.add_mul,cb];exact Nat.mul_le_mul_right _ Y
    obtain ⟨g1,g2,g3,g4,gt,g5⟩:=xoU (m':=⟨m.b,ver+1,m.sz,m.cap,m.ty⟩) (bx':=⟨ver+1,te.sz,e,bx.xs++ys,false,bx.pm&&pm⟩) hR O hm a4 V an ae b8 (c':=(xNM c0.toList (len*te.sz) news).toArray) rfl rfl rfl rfl (.inr (by simp [bc]))
     rfl am.symm bk.symm rfl (by simp;omega) (by rw [am];exact xvj (fun x hx=>by rw [<-am];exact V.ok x hx) ac)
     (by have:=xjn a0;simp at this |-;rw [this,h2,am])
     (by
      rw [am];intro i j hi hj;rw [xeF];refine xy3 (M:=MP M (bx.pm&&pm)) (c:=c0.toList) Q (fun i j hi hj=>by rw [xbO];exact (h3 i j hi hj).mp_and) (fun i j hi hj=>(b1 i j hi hj).mp_and') (fun k hk=>?_) (fun k hk=>?_) i j hi hj
      . rw [xhn a0,if_neg (by rw [al];omega)]
      . rw [xhn a0,if_pos (by rw [al,Q];omega),<-al,show len*te.sz+k - len*te.sz=k by omega])
    exact ⟨_,_,A,_,_,W _ _ q,.inl rfl,g4,g2,fun _ _=>Iff.rfl,g3,gt,g1,.osl _ id (ver+1) 0 (len+ys.length) ⟨m.b,ver+1,m.sz,m.cap,m.ty⟩ (by simp [MSet]) (zd _) rfl fun _=>⟨by simpa using Y,some ⟨m.b,0,none⟩,by simp,fun _=>by simp⟩⟩
   have bj:len<=m.cap:=bb;rcases ag with ⟨rfl,a2⟩|⟨b6,ac,news,Q,ar,U⟩
   . refine ak [] (by simp) (by simp) (by simpa using bj) (by simp) ?_
     have ca:(xNM c0.toList (len*te.sz) []).toArray=c0:=by simp [xNM]
     have bf:w.setRow m.b c0=w:=setRow_self w m.b c0 e (0,0) h1;rw [ca,bf,ad];simpa using a2 (some ⟨m.b,0,none⟩) len m.cap bj
   . by_cases Y:len+ys.length<=m.cap
     . refine ak news (Q) ac Y (fun i j hi hj=>ar _ _ hi hj) ?_
       have bh:len*i.size+news.length<=c0.size:=by
        rw [Q,<-ai,<-Nat.add_mul,h2];exact Nat.mul_le_mul_right _ Y
       have:=(U i z aw a1 ai.symm).room m.b len m.cap c0 h1 Y bh;rw [ad,this];rw [<-ai];rfl
     . have be:∀ j u,(c0.toList.take (len*te.sz))[j]?=some u->w.cell? ((⟨m.b,0,none⟩:Addr).add j)=some u:=by
        intro j u a8;rw [List.getElem?_take] at a8;split at a8
        . rw [xfY,zH];simp [World.cell?,h1];simpa using a8
        . simp at a8
       have ba:(c0.toList.take (len*te.sz)).length=len*te.sz:=by
        simp only [zt,Array.length_toList,h2];have:len*te.sz<=m.cap*te.sz:=Nat.mul_le_mul_right _ bj;omega
       have q:=(U i z aw a1 ai.symm).grow ⟨m.b,0,none⟩ len m.cap (c0.toList.take (len*te.sz)) (by rw [ba,ai]) be (by omega) (by omega) (growslice_fits (by omega) (by rw [<-a9];exact a7))
       have ab:=grownCap_ge w (len+ys.length) m.cap e;have af:=grownCap_le_maxLen w (len+ys.length) m.cap e (by unfold maxLen;omega)
       generalize hcap:grownCap w (len+ys.length) m.cap e=cap at q ab af;have a3:Rel w A M z te.zero:=by rw [bo];exact xcL w A M z
       obtain ⟨bw,_⟩:=a3.cells (xaF Z);have b0:=xan Z;have ah:(Builtin.zeroCells z.cells (cap - (len+ys.length))).size=(cap - (len+ys.length))*te.sz:=by rw [size_zeroCells];congr 1;omega
       generalize bg:(c0.toList.take (len*te.sz)).toArray++news.toArray++Builtin.zeroCells z.cells (cap - (len+ys.length))=c1 at q;have az:c1.size=cap*te.sz:=by
        rw [<-bg];simp only [Array.size_append,List.size_toArray,ba,Q,ah,<-Nat.add_mul];congr 1;omega
       have b2:∀ k,k<bx.xs.length*te.sz->c1.toList.getD k undef=c0.toList.getD k undef:=by
        intro k hk;rw [<-al] at hk;rw [<-bg];simp only [Array.toList_append,zw,z7,zP,ba,hk,if_true,List.getElem?_take]
       have b4:∀ k,k<ys.length*te.sz->c1.toList.getD (bx.xs.length*te.sz+k) undef=news.getD k undef:=by
        intro k hk;rw [<-al,<-bg];simp only [Array.toList_append,zw,z7,zP,ba,show ¬ len*te.sz+k<len*te.sz by omega,if_false,Q,show len*te.sz+k - len*te.sz=k by omega,hk,if_true]
       refine ax c1 cap az ab af ac (fun i j hi hj=>?_) (by rw [ad];exact q)
       rw [<-xbO];exact xy3 (M:=MP M (bx.pm&&pm)) (c:=c0.toList) (Q) (fun i j hi hj=>by rw [xbO];exact (h3 i j hi hj).mp_and) (fun i j hi hj=>(ar _ _ hi hj).mp_and') b2 b4 i j hi hj
 . simp at h
theorem xvM (hR:HR w A M B H) (hB:B<=w.heap.size) {o:Oper} {ρc:Operand->Value} {c:Call} {t tt:TypeId} {os ox:Operand} {xs xx r:AV} {H':List Box} (ho:o.op=.call c) (O:c.callee=.builtin .append)
  (Q:c.argTypes.toList=[t,tt]) (W:c.args.toList=[os,ox]) (hs:Rel w A M (ρc os) xs) (hx:Rel w A M (ρc ox) xx) (h:xNY P H t tt xs xx=some (r,H')) :
  Writes P o ρc w A M B r H':=by
 unfold xNY at h;split at h
 case h_2=>simp at h
 rename_i ti Y;split at h
 case h_2=>simp at h
 rename_i e hd;split at h
 case h_2=>simp at h
 rename_i te q;split at h
 case h_2=>simp at h
 rename_i ys pm U;have hu:P.underlying t=some (.slice e):=by rw [xlo Y,hd]
 have J:0<te.sz:=by
  unfold absApp at h;split at h
  . split at h
    case isFalse=>simp at h
    rename_i hc;exact hc.1
  . split at h
    case h_2=>simp at h
    split at h
    case isFalse=>simp at h
    rename_i hc;exact hc.2.2.2.2.2.1
  . simp at h
 obtain ⟨i,z,V,_⟩:=xaV q;exact xDT hR hB ho O Q W hs q hu (fun v hv=>by subst hv;exact xr1 hR q J hu V hx U) h
theorem xuB {z:Array Value} {n k:Nat} (hk:k<n*z.size) (hz:0<z.size):(Builtin.zeroCells z n).getD k undef=z.getD (k % z.size) undef:=by
 have hm:k % z.size<z.size:=Nat.mod_lt _ hz;simp [Builtin.zeroCells,zu,hk,hm]
theorem xDW (hR:HR w A M B H) {o:Oper} {ρc:Operand->Value} {c:Call} {t:TypeId} {ox:Operand} {xx:AV} {H':List Box} (ho:o.op=.call c) (al:c.callee=.builtin .clear)
  (ar:c.argTypes.toList=[t]) (au:c.args.toList=[ox]) (hx:Rel w A M (ρc ox) xx) (h:absClear P H t xx=some H'):Writes P o ρc w A M B (.tuple []) H':=by
 unfold absClear at h;split at h
 case h_2=>simp at h
 rename_i ti a5;split at h
 case h_2=>simp at h
 rename_i e hd;split at h
 case h_2=>simp at h
 rename_i te ax;split at h
 case h_2=>simp at h
 rename_i id ver off len;split at h
 case h_2=>simp at h
 rename_i bx ag;split at h
 case isFalse=>simp at h
 rename_i az;obtain ⟨a3,hsz,a8,J,be,U⟩:=az;cases h;have hu:P.underlying t=some (.slice e):=by rw [xlo a5,hd]
 obtain ⟨i,z,ao,a9,a0,bc,bb,an,_⟩:=xaV ax;have hts':c.argTypes=#[t]:=by apply Array.ext';simpa using ar
 have has':c.args=#[ox]:=by apply Array.ext';simpa using au
 have Y:∀ v w',(Builtin.clear_ #[t] o.type #[ρc ox]).run P w=.ok v w'->(execOp ρc o).run P w=.ok (.value v) w':=by
  intro v w' hv;simp [execOp,ho,resolve,al,hts',has',invoke,builtin,hv,Go.resolve]
 obtain ⟨m,a,hm,q,a7,aj,ha⟩:=xjg hR hx ag;obtain ⟨Q,ap⟩:=xay ag;have ae:m.sz=te.sz:=by rw [<-q.sz,hsz]
 rcases Nat.eq_zero_or_pos len with rfl|aq
 . have he:(⟨ver,bx.sz,bx.ty,bx.xs.take off++(List.replicate 0 te.zero++bx.xs.drop (off+0)),false,bx.pm⟩:Box)=bx:=by
    cases bx;simp_all
   have Q:H[id]?=some bx:=Q;have af:H.set id bx=H:=by
    apply List.ext_getElem?;intro k;by_cases hk:id=k
    . subst hk;rw [Q,zL];rcases zJ id H.length with h'|h'
      . exact h'
      . rw [zz h'] at Q;simp at Q
    . rw [zX hk]
   rw [he,af];have Z:(Builtin.clear_ #[t] o.type #[ρc ox]).run P w=.ok (.tuple #[]) w:=by
    rw [aj];cases a<;>simp [Builtin.clear_,run_underlying hu]
   exact ⟨_,w,A,M,.tuple #[],Y _ _ Z,.inl rfl,Below.refl _ _,MExt.refl _,fun _ _=>Iff.rfl,fun _ _ _=>rfl,Touch.of_new (Below.refl _ _) (fun id m hm=>.inl hm),hR,.tuple #[] [] rfl (by simp)⟩
 . have ah:off<m.cap:=by have:=q.fits;omega
   have W:0<m.cap:=by omega
   have a4:=ha ah;subst a4;obtain ⟨cc,h1,h2,h3⟩:=q.cells W
   replace h1:=h1.plain (q.nomap (xas U))
   replace h3:∀ i j,i<bx.xs.length->j<m.sz->Rel w A (MP M bx.pm) (cc.getD (i*m.sz+j) undef) ((bx.xs.getD i .top).cells.getD j .top):=fun i j hi hj=>by
    have:=h3 i j hi hj;rw [xam U,xaO U] at this;exact this
   have hty':bx.ty=m.ty:=by rw [<-q.ty,xaS U]
   have a2:Rel w A M z te.zero:=by rw [an];exact xcL w A M z
   obtain ⟨aw,ay⟩:=a2.cells (xaF J);have ba:=xan J;have aa:z.cells.size=m.sz:=by omega
   have ab:(Builtin.zeroCells z.cells len).toList.length=len*m.sz:=by simp [size_zeroCells,aa]
   have O:off*m.sz+(Builtin.zeroCells z.cells len).toList.length<=cc.toList.length:=by
    rw [ab,<-Nat.add_mul,Array.length_toList,h2];exact Nat.mul_le_mul_right _ (by have:=q.fits;omega)
   have ai:∀ u,u∈(Builtin.zeroCells z.cells len).toList->u.oneCell'=true:=fun u hu=>by
    obtain ⟨k,hk,rfl⟩:=zp.1 hu;rw [ab] at hk;have ak:0<z.cells.size:=by
     rcases Nat.eq_zero_or_pos z.cells.size with h0|h0
     . rw [<-aa,h0] at hk;simp at hk
     . exact h0
    have hg:=xuB (z:=z.cells) (n:=len) (k:=k) (by rw [aa];exact hk) ak
    have e1:(Builtin.zeroCells z.cells len).toList[k]'(by rw [ab];exact hk)=z.cells.getD (k % z.cells.size) undef:=by
     rw [<-hg];simp [zu,size_zeroCells,aa,hk]
    rw [e1];have ac:k % z.cells.size<te.zero.cells.length:=by rw [<-aw];exact Nat.mod_lt _ ak
    refine (ay _ ac).oneCell ?_;have:=xaF J;rw [zI] at this;exact this _ (xau ac)
   have am:=run_storeCells_at P m.b (off*m.sz) m.ty (Builtin.zeroCells z.cells len).toList 0 cc w h1 (by simpa using O) ai
   simp only [Nat.add_zero] at am;have ad:(bx.xs.take off).length=off:=by simp;omega
   obtain ⟨g1,g2,g3,g4,gt,g5⟩:=xoU (m':=m) (bx':=⟨ver,bx.sz,bx.ty,bx.xs.take off++(List.replicate len te.zero++bx.xs.drop (off+len)),false,bx.pm⟩) hR W hm Q q U U a3 (c':=(xNM cc.toList (off*m.sz) (Builtin.zeroCells z.cells len).toList).toArray) rfl rfl rfl rfl (.inl rfl)
    (by rw [<-q.ver,<-ap]) q.sz hty' rfl (by have:=q.fits;simp;omega)
    (fun x hx=>by
     rcases zG.1 hx with hx|hx
     . exact q.ok x (List.mem_of_mem_take hx)
     . rcases zG.1 hx with hx|hx
       . rw [(List.mem_replicate.1 hx).2,ae];exact J
       . exact q.ok x (List.mem_of_mem_drop hx))
    (by have:=xjn O;simp at this |-;omega)
    (fun i' j' a6 V=>by
     have hi'':i'<bx.xs.length:=by simp at a6;omega
     rw [xeF,xhn O,ab];by_cases c1:i'<off
     . have e1:(bx.xs.take off++(List.replicate len te.zero++bx.xs.drop (off+len))).getD i' .top=bx.xs.getD i' .top:=by
        simp [z7,zP,ad,c1,List.getElem?_take,hi'']
       have:i'*m.sz+j'<off*m.sz:=xc8 c1 V;rw [if_neg (by omega),xbO,e1]
       exact h3 i' j' hi'' V
     . by_cases c2:i'<off+len
       . have e1:(bx.xs.take off++(List.replicate len te.zero++bx.xs.drop (off+len))).getD i' .top=(List.replicate len te.zero).getD (i' - off) .top:=by
          simp [z7,zP,ad,c1,show i' - off<len by omega]
         have p1:off*m.sz<=i'*m.sz:=Nat.mul_le_mul_right _ (by omega)
         have p2:i'*m.sz+j'<(off+len)*m.sz:=xc8 c2 V;rw [Nat.add_mul] at p2;rw [if_pos (by omega),e1]
         have p3:i'*m.sz+j' - off*m.sz=(i' - off)*m.sz+j':=by rw [Nat.sub_mul];omega
         rw [p3,xbO];have a1:(i' - off)*m.sz+j'<len*m.sz:=xc8 (by omega) V
         have:=xrm (w:=w) (A:=A) (M:=MP M bx.pm) (z:=z) (x:=te.zero) (n:=len) (sz:=te.sz) (by rw [an];exact xcL w A _ z) J (i:=i' - off) (j:=j') (by omega) (by omega) (c:=Builtin.zeroCells z.cells len) (by rw [size_zeroCells,aa,<-ae];exact a1)
          (fun k hk=>xuB (by rw [size_zeroCells] at hk;exact hk) (by omega))
         rw [ae];exact this
       . have e1:(bx.xs.take off++(List.replicate len te.zero++bx.xs.drop (off+len))).getD i' .top=bx.xs.getD i' .top:=by
          simp only [z7,zP,ad,c1,if_false,List.length_replicate,show ¬ i' - off<len by omega,List.getElem?_drop]
          congr 2;omega
         have p1:(off+len)*m.sz<=i'*m.sz:=Nat.mul_le_mul_right _ (by omega)
         rw [Nat.add_mul] at p1;rw [if_neg (by omega),xbO,e1]
         exact h3 i' j' hi'' V)
   have Z:(Builtin.clear_ #[t] o.type #[ρc ox]).run P w=.ok (.tuple #[]) (w.setRow m.b (xNM cc.toList (off*m.sz) (Builtin.zeroCells z.cells len).toList).toArray):=by
    obtain ⟨n,rfl⟩:∃ n,len=n+1:=⟨len - 1,by omega⟩
    have hzr':(zeroValue e).run P w=.ok z w:=by simp [zeroValue,typeInfo,ao,a0]
    rw [aj];simp only [Builtin.clear_,List.getElem?_toArray,zY,Sem.run_bind,run_underlying hu,Result.andThen_ok,hzr',am];rfl
   exact ⟨_,_,A,_,.tuple #[],Y _ _ Z,.inl rfl,g4,g2,fun _ _=>Iff.rfl,g3,gt,g1,.tuple #[] [] rfl (by simp)⟩
theorem HR.rebuild (hR:HR w A M B H) {w':World} {A':Nat->Prop} {M':Id->Option MB} {H':List Box} (S:Nat->Prop)
  (hH:∀ k,¬ S k->k<H.length->H'[k]?=H[k]?) (hM:∀ j:Id,¬ S j.base->M' j=M j)
  (q:∀ (j:Id) m,¬ S j.base->M j=some m->0<m.cap->w'.heap[m.b]?=w.heap[m.b]?/\(A m.b->A' m.b))
  (hw:∀ b,b<w.heap.size->¬ A b->w'.heap[b]?=w.heap[b]?) (hs:w.heap.size<=w'.heap.size) (hA:∀ b,b<w.heap.size->A' b->A b) (U:MExt M M')
  (O:∀ (j:Id) m,S j.base->M' j=some m->∃ bx,getB H' j=some bx/\BoxAt w' A' M' B j m bx)
  (J:∀ (j:Id) m j' m',S j.base->M' j=some m->M' j'=some m'->0<m.cap->0<m'.cap->m.b=m'.b->j=j')
  (V:∀ b,A' b->b<w'.heap.size):HR w' A' M' B H':=by
 refine ⟨fun j m hm=>?_,fun j j' m m' h1 h2 c1 c2 he=>?_,V⟩
 . by_cases hj:S j.base
   . exact O j m hj hm
   . rw [hM j hj] at hm;obtain ⟨bx,g1,g2⟩:=hR.box j m hm;refine ⟨bx,by rw [xnI (hH _ hj (xo8 g1))];exact g1,g2.mono (fun h0=>(q j m hj hm h0).1) hw hs hA (fun h0=>?_) U⟩
     rw [g2.guard h0];exact ⟨(q j m hj hm h0).2,hA _ (g2.lt h0)⟩
 . by_cases hj:S j.base
   . exact J j m j' m' hj h1 h2 c1 c2 he
   . by_cases Q:S j'.base
     . exact (J j' m' j m Q h2 h1 c2 c1 he.symm).symm
     . rw [hM j hj] at h1;rw [hM j' Q] at h2;exact hR.inj j j' m m' h1 h2 c1 c2 he
theorem xsf {e v:AV} {j sz:Nat} (hj:j<sz) (hl:e.cells.length=sz) (hv:v.cells=[v]):(putCells e j 1 sz v).cells.length=sz/\∀ k,k<sz->(putCells e j 1 sz v).cells.getD k .top=if k=j then v else e.cells.getD k .top:=by
 unfold putCells;split
 . rename_i hw;obtain ⟨rfl,rfl⟩:=hw;refine ⟨by rw [hv];rfl,fun k hk=>?_⟩
   have:k=0:=by omega
   subst this;rw [if_pos rfl,hv];rfl
 . have q:min j e.cells.length=j:=by omega
   refine ⟨by rw [xkc,hv];simp;omega,fun k hk=>?_⟩
   simp only [xkc,hv,zw,z7,zP,zt,q];by_cases O:k<j
   . simp [O,List.getElem?_take,show ¬ k=j by omega]
   . by_cases J:k=j
     . subst J;simp
     . simp only [O,if_false,zF,List.length_nil,show ¬ (k - j<1) by omega,J,List.getElem?_drop]
       congr 2;omega
theorem xp8 {e v:AV} {j sz:Nat} (hj:j<sz) (he:e.okElem sz=true) (hv:v.cells=[v]) (ho:v.one=true):(putCells e j 1 sz v).okElem sz=true:=by
 have hl:=xan he;obtain ⟨h1,h2⟩:=xsf hj hl hv;have h3:=xaF he;simp only [AV.okElem,h1,beq_self_eq_true,Bool.true_and];rw [zI] at h3 |-;intro y hy;obtain ⟨k,hk,rfl⟩:=xkC hy;rw [h1] at hk;rw [h2 k hk];split
 . exact ho
 . exact h3 _ (xau (by omega))
def xM2 (bx:Box) (ver i j:Nat) (v:AV):Box:=⟨ver,bx.sz,bx.ty,bx.xs.set i (putCells (bx.xs.getD i .top) j 1 bx.sz v),bx.frz,bx.pm⟩
theorem xwj {bx:Box} {ver i j:Nat} {v:AV} (hi:i<bx.xs.length) (hj:j<bx.sz) (hl:(bx.xs.getD i .top).cells.length=bx.sz) (hv:v.cells=[v]) {i' k:Nat} (hk:k<bx.sz) :
  ((xM2 bx ver i j v).xs.getD i' .top).cells.getD k .top=if i'=i/\k=j then v else (bx.xs.getD i' .top).cells.getD k .top:=by
 have hp:=xsf (e:=bx.xs.getD i .top) (v:=v) hj hl hv;unfold xM2;by_cases q:i'=i
 . subst q;have e1:(bx.xs.set i' (putCells (bx.xs.getD i' .top) j 1 bx.sz v)).getD i' .top=putCells (bx.xs.getD i' .top) j 1 bx.sz v:=by simp [z7,hi]
   rw [e1,hp.2 k hk];simp
 . have e1:(bx.xs.set i (putCells (bx.xs.getD i .top) j 1 bx.sz v)).getD i' .top=bx.xs.getD i' .top:=by simp [z7,List.getElem?_set,show ¬ i=i' from fun h=>q h.symm]
   rw [e1,if_neg (fun h=>q h.1)]
theorem HR.detach (hR:HR w A M B H) {n i j sz:Nat} {ys:List AV} {m:MB} {bx:Box} (hb:H[n]?=some bx) (au:xMW bx.ty j=true) (hx:(bx.xs.getD i .top).cells.getD j .top=.list sz ys) (hj:j<bx.sz) (am:(bx.xs.getD i .top).cells.length=bx.sz) (hm:M (.r n i j)=some m) :
  let M':Id->Option MB:=fun x=>if x=.b H.length then some ⟨m.b,0,m.sz,m.cap,m.ty⟩ else if x=.r n i j then some ⟨0,m.ver+1,0,0,m.ty⟩ else M x
  HR w A M' B (H.set n (xM2 bx bx.ver i j (.int .i64 ys.length))++[⟨0,sz,rowTy bx.ty,ys,bx.frz,true⟩])/\Mv w A M w A M'/\∀ v,Rel w A M v (xNZ n i j (.list sz ys))->Rel w A M' v (.osl H.length 0 0 ys.length):=by
 intro M';obtain ⟨rb,g1,g2⟩:=hR.box _ m hm;have aa:isC bx.ty=true:=xe9 au;obtain ⟨g4,g5,g6,g7⟩:=xhR hb aa g1;rw [hx] at g7;subst g7;have ah:2*ys.length=m.ver:=g2.ver;have hsz:sz=m.sz:=g2.sz;have ai:rowTy bx.ty=m.ty:=by have:=g2.ty;rw [xBv,xaS (xbw _)] at this;exact this
 have hn:n<H.length:=xcG hb;have ae:=hR.free_of_length (n:=H.length) (zd _);have ay:(Id.r n i j)≠.b H.length:=fun e=>by cases e
 have Y:M' (.b H.length)=some ⟨m.b,0,m.sz,m.cap,m.ty⟩:=by simp [M']
 have W:M' (.r n i j)=some ⟨0,m.ver+1,0,0,m.ty⟩:=by simp [M']
 have J:∀ x:Id,x≠.b H.length->x≠.r n i j->M' x=M x:=fun x h1 h2=>by simp [M',h1,h2]
 have ag:∀ x m0,M x=some m0->x≠.b H.length:=fun x m0 h e=>by rw [e,ae.1] at h;cases h
 have O:MExt M M':=fun x m0 h=>by
  by_cases q:x=.r n i j
  . subst q;rw [hm] at h;cases h;exact ⟨_,W,.inr (Nat.lt_succ_self _)⟩
  . exact ⟨m0,by rw [J x (ag x m0 h) q];exact h,.inl rfl⟩
 have V:∀ x m',M' x=some m'->0<m'.cap->∃ y m0,M y=some m0/\m0.b=m'.b/\m0.cap=m'.cap/\(x=.b H.length/\y=.r n i j\/x=y/\y≠.r n i j):=fun x m' h h0=>by
  by_cases h1:x=.b H.length
  . subst h1;rw [Y] at h;cases h;exact ⟨_,m,hm,rfl,rfl,.inl ⟨rfl,rfl⟩⟩
  . by_cases h2:x=.r n i j
    . subst h2;rw [W] at h;cases h;exact absurd h0 (by simp)
    . rw [J x h1 h2] at h;exact ⟨x,m',h,rfl,rfl,.inr ⟨rfl,h2⟩⟩
 have aj:∀ (x:Id) m1 x' m2,M' x=some m1->M' x'=some m2->0<m1.cap->0<m2.cap->m1.b=m2.b->x=x':=fun x m1 x' m2 h1 h2 c1 c2 he=>by
  obtain ⟨y,n1,a1,a2,a3,a4⟩:=V x m1 h1 c1;obtain ⟨y',n2,b1,b2,b3,b4⟩:=V x' m2 h2 c2;have:=hR.inj y y' n1 n2 a1 b1 (by omega) (by omega) (by rw [a2,b2,he])
  subst this;rcases a4 with ⟨rfl,e1⟩|⟨rfl,e1⟩<;>rcases b4 with ⟨rfl,e2⟩|⟨rfl,e2⟩
  . rfl
  . exact absurd e1 e2
  . exact absurd e2 e1
  . rfl
 have aq:∀ {v:Value} {x:AV},Rel w A M v x->Rel w A M' v x:=fun h=>h.mono (fun _ _ _=>rfl) (zd _) (fun _ _ h=>h) O
 have ac:(H.set n (xM2 bx bx.ver i j (.int .i64 ys.length))++[⟨0,sz,rowTy bx.ty,ys,bx.frz,true⟩])[n]?=some (xM2 bx bx.ver i j (.int .i64 ys.length)):=by
  rw [zO (by simpa using hn),zL hn]
 have Q:(xM2 bx bx.ver i j (.int .i64 ys.length)).xs.length=bx.xs.length:=by simp [xM2]
 have U:∀ i' k,k<bx.sz->((xM2 bx bx.ver i j (.int .i64 ys.length)).xs.getD i' .top).cells.getD k .top=if i'=i/\k=j then .int .i64 ys.length else (bx.xs.getD i' .top).cells.getD k .top:=fun i' k hk=>xwj g6 hj am rfl hk
 have af:∀ k,xMW bx.ty k=true->k=j:=fun k hk=>by
  have hc:=xe9 hk;unfold xMW at hk g4;rw [hc] at hk g4;rw [zg hk,zg g4]
 refine ⟨hR.rebuild (fun k=>k=n\/k=H.length) (fun k hk ap=>?_) (fun x q=>J x (fun e=>q (.inr (by rw [e];rfl))) fun e=>q (.inl (by rw [e];rfl))) (fun _ _ _ _ _=>⟨rfl,fun h=>h⟩) (fun _ _ _=>rfl) (zd _) (fun _ _ h=>h) O (fun x m' hS q=>?_) (fun x m1 x' m2 _ h1 h2 c1 c2 he=>aj x m1 x' m2 h1 h2 c1 c2 he) hR.lt,
  ⟨zd _,fun _ _ _=>rfl,fun _ _ h=>h,fun _ _ h _=>h,O,⟨fun _ _ _=>rfl,fun x m' h h0=>?_⟩⟩,fun v hv=>?_⟩
 . rw [zO (by simpa using ap),zX (fun e=>hk (.inl e.symm))]
 . by_cases h1:x=.b H.length
   ·
    subst h1;rw [Y] at q;cases q;have ad:isC (rowTy bx.ty)=false:=xbw _;refine ⟨⟨0,sz,rowTy bx.ty,ys,bx.frz,true⟩,by rw [xbz,List.getElem?_append_right (by simp)];simp,rfl,hsz,by rw [xaS ad];exact ai,g2.capm,g2.fits,g2.ok,g2.low,g2.lt,fun h0=>?_,fun h0=>g2.guard h0⟩
    obtain ⟨c,c1,c2,c3⟩:=g2.cells h0;refine ⟨c,c1,c2,fun i' j' ab ak=>?_⟩
    have h4:=c3 i' j' ab ak;rw [xam (t:=(xNl bx (.list sz ys)).ty) (xbw _),xaO (bx:=xNl bx (.list sz ys)) (xbw _)] at h4;rw [xam ad,xaO ad];exact h4
   . by_cases h2:x=.r n i j
     ·
      subst h2;rw [W] at q;cases q;have ao:∃ rb,getB (H.set n (xM2 bx bx.ver i j (.int .i64 ys.length))++[⟨0,sz,rowTy bx.ty,ys,bx.frz,true⟩]) (.r n i j)=some rb/\rb=⟨2*ys.length+1,0,rowTy bx.ty,[],bx.frz,true⟩:=by
       refine ⟨_,?_,rfl⟩;rw [xee ac aa g4 g5 (by rw [Q];exact g6),U i j hj,if_pos ⟨rfl,rfl⟩]
       simp [xNl,rowLen,xM2]
      obtain ⟨rb,r1,rfl⟩:=ao;have hc:∀ {p:Prop},0<(0:Nat)->p:=fun h=>absurd h (by simp)
      exact ⟨_,r1,by simp only;omega,rfl,by rw [xaS (xbw _)];exact ai,zQ _,zQ _,fun x hx=>by simp at hx,hc,hc,hc,hc⟩
     . have Z:x.base=n:=by
        rcases hS with h|h
        . exact h
        . rw [J x h1 h2] at q;rw [hR.none_of_base (by rw [h];exact zd _)] at q;cases q
       rw [J x h1 h2] at q;obtain ⟨bx',k1,k2⟩:=hR.box x m' q;cases x with
       | r n' i' j' =>
        simp only [Id.base] at Z;subst Z;have k3:getB (H.set n' (xM2 bx bx.ver i j (.int .i64 ys.length))++[⟨0,sz,rowTy bx.ty,ys,bx.frz,true⟩]) (.r n' i' j')=some bx':=by
         obtain ⟨e2,e3,e4,e5⟩:=xhR hb aa k1;have an:=af j' e2;subst an;have ax:i'≠i:=fun e=>h2 (by rw [e])
         rw [xee ac aa e2 e3 (by rw [Q];exact e4),U i' j' hj,if_neg (fun e=>ax e.1),e5]
         rfl
        exact ⟨bx',k3,k2.mono (fun _=>rfl) (fun _ _ _=>rfl) (zd _) (fun _ _ h=>h) k2.guard O⟩
       | b n' =>
        simp only [Id.base] at Z;subst Z;rw [xbz,hb] at k1;cases k1;have k4:=k2.mono (w':=w) (fun _=>rfl) (fun _ _ _=>rfl) (zd _) (fun _ _ h=>h) k2.guard O
        refine ⟨_,ac,k4.ver,k4.sz,k4.ty,k4.capm,by rw [Q];exact k4.fits,fun y hy=>?_,k4.low,k4.lt,fun h0=>?_,k4.guard⟩
        . rcases List.mem_or_eq_of_mem_set hy with hy|rfl
          . exact k4.ok y hy
          . rw [<-k4.sz];exact xp8 hj (by rw [k4.sz];exact k4.ok _ (xau g6)) rfl rfl
        . obtain ⟨c,c1,c2,c3⟩:=k4.cells h0;refine ⟨c,by rw [Q];exact c1,c2,fun i' k ab hk=>?_⟩
          rw [Q] at ab;have h4:=c3 i' k ab hk;have al:MV M' (xM2 bx bx.ver i j (.int .i64 ys.length)) k=MV M' bx k:=rfl;have aw:xNi n' i' k (xM2 bx bx.ver i j (.int .i64 ys.length)).ty (((xM2 bx bx.ver i j (.int .i64 ys.length)).xs.getD i' .top).cells.getD k .top)=xNi n' i' k bx.ty ((bx.xs.getD i' .top).cells.getD k .top):=by
           rw [U i' k (by rw [k4.sz];exact hk)]
           split
           . rename_i ar;obtain ⟨rfl,rfl⟩:=ar;show xNi n' i' k bx.ty _=_;unfold xNi;rw [g4,hx];rfl
           . rfl
          simp only [Id.base];rw [al,aw];exact h4
 . obtain ⟨y,m0,a1,a2,a3,_⟩:=V x m' h h0;exact .inl ⟨y,m0,a1,by omega,a2.symm⟩
 . obtain ⟨m1,b1,b2,b3,b4⟩:=Rel.osl_inv hv;rw [hm] at b1;cases b1;obtain ⟨e1,a,e2,e3⟩:=b4 ah;exact .osl v (.b H.length) 0 0 ys.length _ Y (zd _) b3 fun _=>⟨e1,a,e2,e3⟩
def deadLen:AV->Option Nat
 | .int _ l=>some l.toNat
 | _=>none
def absAdopt (P:Program) (H:List Box) (t:TypeId) (a v:AV):Option (List Box) :=
 match xMU P t,a,v with
 | some ti,.own (.b n) ver i j,.osl (.b id) ver2 off len=>match xMY H (.b n) ver,xMY H (.b id) ver2 with
  | some bx,some b2=>match deadLen ((bx.xs.getD i .top).cells.getD j .top) with
   | some l0=>if ti.sz=1/\bx.frz=false/\xMW bx.ty j=true/\bx.pm=true/\j<bx.sz/\i<bx.xs.length/\(bx.xs.getD i .top).cells.length=bx.sz /\
     b2.frz=false/\b2.pm=true/\isC b2.ty=false/\b2.ty=rowTy bx.ty/\off=0/\len=b2.xs.length/\l0<len then
    some ((H.set id ⟨ver2+1,b2.sz,b2.ty,[],false,true⟩).set n (xM2 bx ver i j (.list b2.sz b2.xs))) else none
   | none=>none
  | _,_=>none
 | _,_,_=>none
theorem xDS (hR:HR w A M B H) {o:Oper} {ρc:Operand->Value} {t:TypeId} {oa ov:Operand} {xa xv:AV} {H':List Box} (ho:o.op=.store t oa ov) (ha:Rel w A M (ρc oa) xa) (hv:Rel w A M (ρc ov) xv) (h:absAdopt P H t xa xv=some H') :
  Writes P o ρc w A M B (.tuple []) H':=by
 unfold absAdopt at h;split at h
 case h_2=>simp at h
 rename_i ti n ver i j id U off len b6;split at h
 case h_2=>simp at h
 rename_i bx b2 aw aq;split at h
 case h_2=>simp at h
 rename_i l0 Y;split at h
 case isFalse=>simp at h
 rename_i bz;obtain ⟨bq,bb,V,b5,ak,hi,bi,a6,a8,aa,bg,rfl,rfl,b9⟩:=bz;cases h;obtain ⟨m,hm,q,bm⟩:=xnP hR ha aw;obtain ⟨m2,a2,am,O,b0,a9,ca⟩:=xjg hR hv aq;obtain ⟨ag,bh⟩:=xay aw;obtain ⟨ai,ao⟩:=xay aq;rw [xbz] at ag ai;have hne:id≠n:=fun e=>by
  subst e;rw [ag] at ai;cases ai;have:=xe9 V;rw [aa] at this;cases this
 have Q:0<m.cap:=by have:=q.fits;omega
 obtain ⟨c,h1,h2,h3⟩:=q.cells Q;have bc:xMX m.ty=false:=q.nomap (xcc aw)
 replace h1:=h1.plain bc
 have hsz:=q.sz;have bw:j<m.sz:=by omega
 have ay:(ρc ov).cells=#[ρc ov]:=by rw [a9];rfl
 have ar:(ρc ov).cells.size=1:=by rw [ay];rfl
 have bu:i*m.sz+m.sz<=c.size:=by
  rw [h2];have:(i+1)*m.sz<=m.cap*m.sz:=Nat.mul_le_mul_right _ (Nat.le_trans hi q.fits);rw [Nat.add_mul,Nat.one_mul] at this;exact this
 have ap:i*m.sz+j+(ρc ov).cells.toList.length<=c.toList.length:=by simp [ar];omega
 have a0:=run_storeCells_at P m.b (i*m.sz+j) m.ty (ρc ov).cells.toList 0 c w h1 (by simp [ar];omega) (fun u hu=>by
  rw [ay] at hu;simp only [zv] at hu;subst hu;rw [a9];rfl)
 simp only [Nat.add_zero] at a0;have bn:A m.b:=(q.guard Q).1 bb;generalize ax:(xNM c.toList (i*m.sz+j) (ρc ov).cells.toList).toArray=c' at a0;have bt:c'.size=m.cap*m.sz:=by rw [<-ax];have:=xjn ap;simp at this |-;omega
 have bv:∀ k,c'.getD k undef=if k=i*m.sz+j then ρc ov else c.getD k undef:=fun k=>by
  rw [<-ax,xeF,xhn ap,ay];by_cases hk:k=i*m.sz+j
  . subst hk;simp
  . rw [if_neg (by simp;omega),if_neg hk,xbO]
 have hs:(w.setRow m.b c').heap.size=w.heap.size:=by simp [World.setRow]
 have hw:∀ b,b<w.heap.size->¬ A b->(w.setRow m.b c').heap[b]?=w.heap[b]?:=fun b _ hb=>setRow_other w m.b b c' fun e=>hb (e▸bn)
 let M':Id->Option MB:=fun x=>if x=.b id then some ⟨m2.b,m2.ver+1,m2.sz,0,m2.ty⟩ else if x=.r n i j then some ⟨m2.b,2*b2.xs.length,m2.sz,m2.cap,m2.ty⟩ else M x
 have aj:M' (.b id)=some ⟨m2.b,m2.ver+1,m2.sz,0,m2.ty⟩:=by simp [M']
 have ac:M' (.r n i j)=some ⟨m2.b,2*b2.xs.length,m2.sz,m2.cap,m2.ty⟩:=by simp [M']
 have Z:∀ x:Id,x≠.b id->x≠.r n i j->M' x=M x:=fun x h1 h2=>by simp [M',h1,h2]
 have b8:∀ m0,M (.r n i j)=some m0->m0.cap=0/\m0.ver<2*b2.xs.length->m0.ver<2*b2.xs.length:=fun _ _ h=>h.2
 have a7:∀ m0,M (.r n i j)=some m0->m0.ver<2*b2.xs.length:=fun m0 h0=>by
  obtain ⟨rb,k1,k2⟩:=hR.box _ m0 h0;obtain ⟨k4,k5,k6,k7⟩:=xhR ag (xe9 V) k1;have k8:=k2.ver;rw [k7] at k8;unfold deadLen at Y;split at Y
  . rename_i kk l hl;simp only [z6] at Y;rw [hl] at k8;simp only [xNl,rowLen] at k8;omega
  . simp at Y
 have W:MExt M M':=fun x m0 h0=>by
  by_cases e1:x=.b id
  . subst e1;rw [am] at h0;cases h0;exact ⟨_,aj,.inr (Nat.lt_succ_self _)⟩
  . by_cases e2:x=.r n i j
    . subst e2;exact ⟨_,ac,.inr (a7 m0 h0)⟩
    . exact ⟨m0,by rw [Z x e1 e2];exact h0,.inl rfl⟩
 have ah:∀ x m',M' x=some m'->0<m'.cap->∃ y m0,M y=some m0/\m0.b=m'.b/\m0.cap=m'.cap/\(x=.r n i j/\y=.b id\/x=y/\y≠.b id/\y≠.r n i j):=fun x m' h h0=>by
  by_cases e1:x=.b id
  . subst e1;rw [aj] at h;cases h;exact absurd h0 (by simp)
  . by_cases e2:x=.r n i j
    . subst e2;rw [ac] at h;cases h;exact ⟨_,m2,am,rfl,rfl,.inl ⟨rfl,rfl⟩⟩
    . rw [Z x e1 e2] at h;exact ⟨x,m',h,rfl,rfl,.inr ⟨rfl,e1,e2⟩⟩
 have be:∀ (x:Id) m1 x' m2,M' x=some m1->M' x'=some m2->0<m1.cap->0<m2.cap->m1.b=m2.b->x=x':=fun x m1 x' m2 h1 h2 c1 c2 he=>by
  obtain ⟨y,n1,a1,a2,a3,a4⟩:=ah x m1 h1 c1;obtain ⟨y',n2,b1,b2,b3,b4⟩:=ah x' m2 h2 c2;have:=hR.inj y y' n1 n2 a1 b1 (by omega) (by omega) (by rw [a2,b2,he])
  subst this;rcases a4 with ⟨rfl,e1⟩|⟨rfl,e1,_⟩<;>rcases b4 with ⟨rfl,e2⟩|⟨rfl,e2,_⟩
  . rfl
  . exact absurd e1 e2
  . exact absurd e2 e1
  . rfl
 have ad:∀ (x:Id) m0,x≠.b n->M x=some m0->0<m0.cap->(w.setRow m.b c').heap[m0.b]?=w.heap[m0.b]?:=fun x m0 hx h0 c0=>setRow_other w m.b m0.b c' fun e=>hx (hR.inj x (.b n) m0 m h0 hm c0 Q e)
 have hn:n<H.length:=xcG ag;have bk:id<H.length:=xcG ai;have au:((H.set id ⟨U+1,b2.sz,b2.ty,[],false,true⟩).set n (xM2 bx ver i j (.list b2.sz b2.xs)))[n]?=some (xM2 bx ver i j (.list b2.sz b2.xs)):=zL (by simpa using hn)
 have bf:((H.set id ⟨U+1,b2.sz,b2.ty,[],false,true⟩).set n (xM2 bx ver i j (.list b2.sz b2.xs)))[id]?=some ⟨U+1,b2.sz,b2.ty,[],false,true⟩:=by
  rw [zX (Ne.symm hne),zL bk]
 have af:(xM2 bx ver i j (.list b2.sz b2.xs)).xs.length=bx.xs.length:=by simp [xM2]
 have ab:∀ i' k,k<bx.sz->((xM2 bx ver i j (.list b2.sz b2.xs)).xs.getD i' .top).cells.getD k .top=if i'=i/\k=j then .list b2.sz b2.xs else (bx.xs.getD i' .top).cells.getD k .top:=fun i' k hk=>xwj hi ak bi rfl hk
 have a5:∀ k,xMW bx.ty k=true->k=j:=fun k hk=>by
  have hc:=xe9 hk;unfold xMW at hk V;rw [hc] at hk V;rw [zg hk,zg V]
 have hR':HR (w.setRow m.b c') A M' B ((H.set id ⟨U+1,b2.sz,b2.ty,[],false,true⟩).set n (xM2 bx ver i j (.list b2.sz b2.xs))):=by
  refine hR.rebuild (fun k=>k=n\/k=id) (fun k hk cb=>?_) (fun x J=>Z x (fun e=>J (.inr (by rw [e];rfl))) fun e=>J (.inl (by rw [e];rfl))) (fun x m0 J h0 c0=>⟨ad x m0 (fun e=>J (.inl (by rw [e];rfl))) h0 c0,fun h=>h⟩) hw (by rw [hs];exact zd _) (fun _ _ h=>h) W (fun x m' hS J=>?_) (fun x m1 x' m2 _ h1 h2 c1 c2 he=>be x m1 x' m2 h1 h2 c1 c2 he) (fun b hb=>by rw [hs];exact hR.lt b hb)
  . rw [zX (fun e=>hk (.inl e.symm)),zX (fun e=>hk (.inr e.symm))]
  . by_cases e1:x=.b id
    ·
     subst e1;rw [aj] at J;cases J;have hc:∀ {p:Prop},0<(0:Nat)->p:=fun h=>absurd h (by simp)
     exact ⟨(⟨U+1,b2.sz,b2.ty,[],false,true⟩:Box),bf,by simp only;rw [<-O.ver,ao],O.sz,O.ty,zQ _,zQ _,fun x hx=>by simp at hx,hc,hc,hc,hc⟩
    . by_cases e2:x=.r n i j
      ·
       subst e2;rw [ac] at J;cases J;have bp:getB ((H.set id ⟨U+1,b2.sz,b2.ty,[],false,true⟩).set n (xM2 bx ver i j (.list b2.sz b2.xs))) (.r n i j)=some ⟨2*b2.xs.length,b2.sz,rowTy bx.ty,b2.xs,bx.frz,true⟩:=by
        rw [xee au (xe9 V) V b5 (by rw [af];exact hi),ab i j ak,if_pos ⟨rfl,rfl⟩]
        rfl
       have k4:=O.mono (w':=w.setRow m.b c') (A':=A) (M':=M') (fun h0=>ad (.b id) m2 (fun e=>hne (by injection e)) am h0) hw (by rw [hs];exact zd _) (fun _ _ h=>h) O.guard W
       refine ⟨_,bp,rfl,k4.sz,by rw [<-bg];exact k4.ty,k4.capm,k4.fits,k4.ok,k4.low,k4.lt,fun h0=>?_,fun h0=>?_⟩
       . obtain ⟨cc,c1,c2,c3⟩:=k4.cells h0;refine ⟨cc,c1,c2,fun i' k an hk=>?_⟩
         have h4:=c3 i' k an hk;rw [xam aa,xaO aa,a8] at h4;rw [xam (xbw _),xaO (bx:=⟨2*b2.xs.length,b2.sz,rowTy bx.ty,b2.xs,bx.frz,true⟩) (xbw _)];exact h4
       . have:=k4.guard h0;rw [a6] at this;rw [bb];exact this
      . by_cases ae:x.base=id
        ·
         rw [Z x e1 e2] at J;obtain ⟨bx',k1,k2⟩:=hR.box x m' J;cases x with
         | b k=>exact absurd (by rw [<-ae];rfl) e1
         | r k i' j' =>
          simp only [Id.base] at ae;subst ae;rw [xdo ai aa] at k1;cases k1;exact ⟨tombB,xdo bf aa,k2.mono (fun h0=>ad _ m' (fun e=>by cases e) J h0) hw (by rw [hs];exact zd _) (fun _ _ h=>h) k2.guard W⟩
        have al:x.base=n:=by
         rcases hS with h|h
         . exact h
         . exact absurd h ae
        rw [Z x e1 e2] at J;obtain ⟨bx',k1,k2⟩:=hR.box x m' J;cases x with
        | r n' i' j' =>
         simp only [Id.base] at al;subst al;have k3:getB ((H.set id ⟨U+1,b2.sz,b2.ty,[],false,true⟩).set n' (xM2 bx ver i j (.list b2.sz b2.xs))) (.r n' i' j')=some bx':=by
          obtain ⟨ba,e3,e4,e5⟩:=xhR ag (xe9 V) k1;have bo:=a5 j' ba;subst bo;have b7:i'≠i:=fun e=>e2 (by rw [e])
          rw [xee au (xe9 V) ba e3 (by rw [af];exact e4),ab i' j' ak,if_neg (fun e=>b7 e.1),e5]
          rfl
         exact ⟨bx',k3,k2.mono (fun h0=>ad _ m' (fun e=>by cases e) J h0) hw (by rw [hs];exact zd _) (fun _ _ h=>h) k2.guard W⟩
        | b n' =>
         simp only [Id.base] at al;subst al;rw [hm] at J;cases J;refine ⟨xM2 bx ver i j (.list b2.sz b2.xs),au,by rw [<-q.ver,bh];rfl,q.sz,q.ty,q.capm,by rw [af];exact q.fits,fun y hy=>?_,q.low,fun h0=>by rw [hs];exact q.lt h0,fun h0=>?_,q.guard⟩
         . rcases List.mem_or_eq_of_mem_set hy with hy|rfl
           . exact q.ok y hy
           . rw [<-q.sz];exact xp8 ak (by rw [q.sz];exact q.ok _ (xau hi)) rfl rfl
         . refine ⟨c',.of bc (setRow_heap w m.b c c' m.ty (0,0) h1),bt,fun i' k an hk=>?_⟩
           rw [af] at an;have bj:MV M' (xM2 bx ver i j (.list b2.sz b2.xs)) k=MV M' bx k:=rfl;show Rel _ _ (MV M' (xM2 bx ver i j (.list b2.sz b2.xs)) k) _ (xNi n' i' k bx.ty _);rw [bj,ab i' k (by omega),bv]
           by_cases az:i'=i/\k=j
           . obtain ⟨rfl,rfl⟩:=az;rw [if_pos rfl,if_pos ⟨rfl,rfl⟩];unfold MV xNi;rw [V];obtain ⟨m3,q1,q2,q3,q4⟩:=Rel.osl_inv hv;rw [am] at q1;cases q1;obtain ⟨q5,a,q6,q7⟩:=q4 (by rw [<-ao,O.ver])
             exact .osl _ (.r n' i' k) _ _ _ _ ac (zd _) q3 fun _=>⟨q5,a,q6,q7⟩
           . rw [if_neg az,if_neg (fun e=>az (xJQ hk bw e))]
             exact (h3 i' k an hk).mono hw (by rw [hs];exact zd _) (fun _ _ h=>h) (xAl W bx k)
 refine ⟨.skip,w.setRow m.b c',A,M',undef,?_,.inr ⟨rfl,rfl⟩,⟨rfl,rfl,rfl,by rw [hs];exact zd _,fun k hk=>setRow_other w m.b k c' fun e=>by have:=q.low Q;omega⟩,W,fun _ _=>Iff.rfl,hw,⟨fun b _ hb=>setRow_other w m.b b c' fun e=>hb (.b n) m hm Q e.symm,fun x m' h h0=>?_⟩,hR',.tuple #[] [] rfl (by simp)⟩
 . simp only [execOp,ho,bm,Instr.storeAt,Instr.sureAddr,storeVar,Sem.run_bind,Sem.run_pure,Result.andThen_ok,xcM b6,bq,ar,ne_eq,not_true,if_false];rw [a0,<-ax];rfl
 . obtain ⟨y,m0,a1,a2,a3,_⟩:=ah x m' h h0;exact .inl ⟨y,m0,a1,by omega,a2.symm⟩
def newRow (t:TypeId) (sz:Nat) (y:AV):AV:=putCells y (xM0 t) 1 sz (.list (rowSz t) [])
theorem xp7 {t:TypeId} {sz:Nat} {y:AV} (hs:xM0 t<sz) (hy:y.okElem sz=true) {k:Nat} (hk:k<sz):(newRow t sz y).cells.getD k .top=if k=xM0 t then .list (rowSz t) [] else y.cells.getD k .top :=
 (xsf hs (xan hy) rfl).2 k hk
theorem xr0 {t:TypeId} {k:Nat}:xMW t k=true->k=xM0 t:=fun h=>by
 have hc:=xe9 h;unfold xMW at h;rw [hc] at h;exact zg h
theorem HR.grown (hR:HR w A M B H) {n:Nat} {m m':MB} {bx:Box} {w':World} {A':Nat->Prop} {c':Array Value} {ys:List AV}
  (hm:M (.b n)=some m) (hb:H[n]?=some bx) (J:BoxAt w A M B (.b n) m bx) (ba:bx.frz=false) (hC:isC bx.ty=true) (bb:xMX m.ty=false) (aw:bx.pm=true) (ab:xM0 bx.ty<m.sz)
  (hw:∀ b,b<w.heap.size->¬ A b->w'.heap[b]?=w.heap[b]?) (hs:w.heap.size<=w'.heap.size) (hA:∀ b,b<w.heap.size->A' b->A b)
  (aa:∀ x m0,x≠.b n->M x=some m0->0<m0.cap->w'.heap[m0.b]?=w.heap[m0.b]?/\(A m0.b->A' m0.b))
  (e1:m'.ver=m.ver+1) (e2:m'.sz=m.sz) (e3:m'.ty=m.ty) (hcap:bx.xs.length+ys.length<=m'.cap) (a9:m'.cap<=maxLen) (am:B<=m'.b) (a7:m'.b<w'.heap.size) (ay:A' m'.b)
  (hc:w'.heap[m'.b]?=some (.cells c' m'.ty (0,0))) (a0:c'.size=m'.cap*m.sz) (a5:m'.b=m.b/\0<m.cap\/w.heap.size<=m'.b)
  (aq:∀ i j,i<bx.xs.length->j<m.sz->Rel w A (MV M bx j) (c'.getD (i*m.sz+j) undef) (xNi n i j bx.ty ((bx.xs.getD i .top).cells.getD j .top)))
  (ar:∀ i j,i<ys.length->j<m.sz->Rel w A xM7 (c'.getD ((bx.xs.length+i)*m.sz+j) undef) ((ys.getD i .top).cells.getD j .top))
  (ai:∀ y,y∈ys->y.okElem m.sz=true) (ak:∀ y,y∈ys->y.cells.getD (xM0 bx.ty) .top=.nils) (an:∀ b,A' b->b<w'.heap.size) :
  ∃ M',HR w' A' M' B (H.set n ⟨bx.ver+1,bx.sz,bx.ty,bx.xs++ys.map (newRow bx.ty bx.sz),false,true⟩)/\MExt M M'/\M' (.b n)=some m'/\∀ x m0,M' x=some m0->0<m0.cap->x=.b n/\m0=m'\/M x=some m0/\x≠.b n:=by
 have hn:n<H.length:=xcG hb;let M':Id->Option MB:=fun x=>if x=.b n then some m' else match x with
  | .b _=>M x
  | .r k i j=>if k=n/\bx.xs.length<=i/\i<bx.xs.length+ys.length/\j=xM0 bx.ty then some ⟨0,0,rowSz bx.ty,0,rowTy bx.ty⟩ else M x
 have Y:M' (.b n)=some m':=by simp [M']
 have ae:∀ i,bx.xs.length<=i->i<bx.xs.length+ys.length->M' (.r n i (xM0 bx.ty))=some ⟨0,0,rowSz bx.ty,0,rowTy bx.ty⟩:=fun i h1 h2=>by simp [M',h1,h2]
 have W:∀ x:Id,x≠.b n->(∀ i,bx.xs.length<=i->i<bx.xs.length+ys.length->x≠.r n i (xM0 bx.ty))->M' x=M x:=fun x h1 h2=>by
  cases x with
  | b k=>simp [M',h1]
  | r k i j =>
   have:¬ (k=n/\bx.xs.length<=i/\i<bx.xs.length+ys.length/\j=xM0 bx.ty):=fun ⟨a1,a2,a3,a4⟩=>h2 i a2 a3 (by rw [a1,a4])
   simp [M',this]
 have ah:∀ i j,bx.xs.length<=i->M (.r n i j)=none:=fun i j hi=>by
  cases h:M (.r n i j) with
  | none=>rfl
  | some m0 =>
   obtain ⟨rb,k1,_⟩:=hR.box _ m0 h;obtain ⟨_,_,k3,_⟩:=xhR hb hC k1;omega
 have O:MExt M M':=fun x m0 h0=>by
  by_cases h1:x=.b n
  . subst h1;rw [hm] at h0;cases h0;exact ⟨m',Y,.inr (by omega)⟩
  . exact ⟨m0,by rw [W x h1 fun i hi _ e=>by subst e;rw [ah i _ hi] at h0;cases h0];exact h0,.inl rfl⟩
 have Z:∀ x m0,M' x=some m0->x=.b n/\m0=m'\/(∃ i,bx.xs.length<=i/\i<bx.xs.length+ys.length/\x=.r n i (xM0 bx.ty)/\m0=⟨0,0,rowSz bx.ty,0,rowTy bx.ty⟩)\/(M x=some m0/\x≠.b n):=fun x m0 h=>by
  by_cases h1:x=.b n
  . subst h1;rw [Y] at h;simp only [z6] at h;exact .inl ⟨rfl,h.symm⟩
  . by_cases h2:∃ i,bx.xs.length<=i/\i<bx.xs.length+ys.length/\x=.r n i (xM0 bx.ty)
    . obtain ⟨i,a1,a2,rfl⟩:=h2;rw [ae i a1 a2] at h;simp only [z6] at h;exact .inr (.inl ⟨i,a1,a2,rfl,h.symm⟩)
    . rw [W x h1 fun i a1 a2 e=>h2 ⟨i,a1,a2,e⟩] at h
      exact .inr (.inr ⟨h,h1⟩)
 have q:∀ x m0,M' x=some m0->0<m0.cap->x=.b n/\m0=m'\/M x=some m0/\x≠.b n:=fun x m0 h h0=>by
  rcases Z x m0 h with h|⟨i,_,_,_,rfl⟩|h
  . exact .inl h
  . exact absurd h0 (by simp)
  . exact .inr h
 have ap:∀ x m0,M x=some m0->x≠.b n->0<m0.cap->m0.b≠m'.b:=fun x m0 h hx h0 e=>by
  rcases a5 with ⟨h1,h2⟩|h1
  . exact hx (hR.inj x (.b n) m0 m h hm h0 h2 (by rw [e,h1]))
  . obtain ⟨be,_,k2⟩:=hR.box x m0 h;have:=k2.lt h0;omega
 have U:(bx.xs++ys.map (newRow bx.ty bx.sz)).length=bx.xs.length+ys.length:=by simp
 have ag:(H.set n ⟨bx.ver+1,bx.sz,bx.ty,bx.xs++ys.map (newRow bx.ty bx.sz),false,true⟩)[n]?=some ⟨bx.ver+1,bx.sz,bx.ty,bx.xs++ys.map (newRow bx.ty bx.sz),false,true⟩:=zL hn;have hsz:=J.sz;have au:∀ i,i<bx.xs.length->(bx.xs++ys.map (newRow bx.ty bx.sz)).getD i .top=bx.xs.getD i .top:=fun i hi=>by simp [z7,zP,hi]
 have ao:∀ i,i<ys.length->(bx.xs++ys.map (newRow bx.ty bx.sz)).getD (bx.xs.length+i) .top=newRow bx.ty bx.sz (ys.getD i .top):=fun i hi=>by
  simp [z7,zP,hi]
 have Q:xMW bx.ty (xM0 bx.ty)=true:=by unfold xMW;rw [hC];exact Nat.beq_refl _
 refine ⟨M',hR.rebuild (fun k=>k=n) (fun k hk _=>zX (fun e=>hk e.symm)) (fun x hx=>W x (fun e=>hx (by rw [e];rfl)) fun i _ _ e=>hx (by rw [e];rfl)) (fun x m0 hx h0 c0=>aa x m0 (fun e=>hx (by rw [e];rfl)) h0 c0) hw hs hA O (fun x m0 hx bc=>?_) (fun x m1 x' m2 _ h1 h2 c1 c2 he=>?_) an,O,Y,q⟩
 . rcases Z x m0 bc with ⟨rfl,rfl⟩|⟨i,a1,a2,rfl,rfl⟩|⟨h0,hne⟩
   ·
    refine ⟨_,ag,by simp only;rw [J.ver,e1],by rw [e2];exact hsz,by rw [e3];exact J.ty,a9,by rw [U];exact hcap,fun y hy=>?_,fun _=>am,fun _=>a7,fun _=>⟨c',.of (by rw [e3];exact bb) hc,by rw [e2];exact a0,fun i j hi hj=>?_⟩,fun _=>⟨fun _=>ay,fun _=>rfl⟩⟩
    . rw [e2];rcases zG.1 hy with hy|hy
      . exact J.ok y hy
      . obtain ⟨y0,a6,rfl⟩:=zK.1 hy;rw [hsz];exact xp8 ab (ai y0 a6) rfl rfl
    . rw [e2] at hj |-;rw [U] at hi;have ax:MV M' (⟨bx.ver+1,bx.sz,bx.ty,bx.xs++ys.map (newRow bx.ty bx.sz),false,true⟩:Box) j=MV M' bx j:=by unfold MV;rw [aw]
      show Rel _ _ (MV M' _ j) _ (xNi n i j bx.ty _);rw [ax];by_cases al:i<bx.xs.length
      . rw [au i al];exact (aq i j al hj).mono hw hs hA (xAl O bx j)
      . obtain ⟨i0,rfl⟩:∃ i0,i=bx.xs.length+i0:=⟨i - bx.xs.length,by omega⟩
        have V:i0<ys.length:=by omega
        have h4:=ar i0 j V hj;have af:=xau V;rw [ao i0 V,xp7 (by rw [hsz];exact ab) (by rw [hsz];exact ai _ af) (by rw [hsz];exact hj)]
        by_cases aj:j=xM0 bx.ty
        . subst aj;rw [if_pos rfl];rw [ak _ af] at h4;have hv:c'.getD ((bx.xs.length+i0)*m.sz+xM0 bx.ty) undef=.slice none 0 0:=by
           generalize c'.getD ((bx.xs.length+i0)*m.sz+xM0 bx.ty) undef=u at h4;cases h4;rfl
          unfold MV xNi;rw [Q,hv];exact .osl _ (.r n _ _) _ _ _ _ (ae _ (Nat.le_add_right _ _) (by omega)) (zd _) rfl fun _=>⟨zd _,none,rfl,fun h=>absurd h (by simp)⟩
        . have a8:xMW bx.ty j=false:=by
           cases hq:xMW bx.ty j with
           | false=>rfl
           | true=>exact absurd (xr0 hq) aj
          rw [if_neg aj];unfold MV xNi;rw [a8,aw];exact h4.mono hw hs hA (MExt.refl _)
   ·
    obtain ⟨i0,rfl⟩:∃ i0,i=bx.xs.length+i0:=⟨i - bx.xs.length,by omega⟩
    have V:i0<ys.length:=by omega
    have ad:∀ {p:Prop},0<(0:Nat)->p:=fun h=>absurd h (by simp)
    refine ⟨⟨0,rowSz bx.ty,rowTy bx.ty,[],false,true⟩,?_,rfl,rfl,xaS (xbw _),zQ _,zQ _,fun y hy=>by simp at hy,ad,ad,ad,ad⟩
    rw [xee ag hC Q rfl (by rw [U];omega)]
    simp only;rw [ao i0 V,xp7 (by rw [hsz];exact ab) (by rw [hsz];exact ai _ (xau V)) (by rw [hsz];exact ab),if_pos rfl]
    rfl
   ·
    have ac:x.base=n:=hx;obtain ⟨rb,k1,k2⟩:=hR.box x m0 h0;cases x with
    | b k=>simp only [Id.base] at ac;subst ac;exact absurd rfl hne
    | r k i j =>
     simp only [Id.base] at ac;subst ac;obtain ⟨q2,q3,q4,q5⟩:=xhR hb hC k1;have az:bx.frz=false:=ba;refine ⟨rb,?_,k2.mono (fun c0=>(aa _ m0 hne h0 c0).1) hw hs hA (fun c0=>?_) O⟩
     . rw [xee ag hC q2 rfl (by rw [U];omega)]
       simp only;rw [au i q4,q5];generalize (bx.xs.getD i .top).cells.getD j .top=z;cases z<;>simp [xNl,az]
     . rw [k2.guard c0];exact ⟨(aa _ m0 hne h0 c0).2,hA _ (k2.lt c0)⟩
 . rcases q x m1 h1 c1 with ⟨rfl,rfl⟩|⟨a1,a2⟩<;>rcases q x' m2 h2 c2 with ⟨rfl,rfl⟩|⟨b1,b2⟩
   . rfl
   . exact absurd he.symm (ap x' m2 b1 b2 c2)
   . exact absurd he (ap x m1 a1 a2 c1)
   . exact hR.inj x x' m1 m2 a1 b1 c1 c2 he
def isNils:AV->Bool
 | .nils=>true
 | _=>false
def absAppC (P:Program) (H:List Box) (t tt:TypeId) (s x:AV):Option (AV×List Box) :=
 match xMU P t,s with
 | some ti,.osl (.b n) ver off len=>match ti.d with
  | .slice e=>match xMU P e,xMY H (.b n) ver with
   | some te,some bx=>match absSrc P H t tt e te.sz x with
    | some (ys,pm)=>if off=0/\len=bx.xs.length/\bx.frz=false/\bx.sz=te.sz/\isC bx.ty=true/\rty bx.ty=e/\bx.pm=true/\pm=true/\xM0 bx.ty<te.sz/\0<te.sz /\
      (len+ys.length)*te.bytes<=140737488355328/\len+ys.length<=xNJ/\te.zero.okElem te.sz=true/\0<ys.length/\ys.all (fun y=>isNils (y.cells.getD (xM0 bx.ty) .top))=true then
     some (.osl (.b n) (ver+1) 0 (len+ys.length),H.set n ⟨ver+1,te.sz,bx.ty,bx.xs++ys.map (newRow bx.ty te.sz),false,true⟩) else none
    | none=>none
   | _,_=>none
  | _=>none
 | _,_=>none
set_option maxHeartbeats 1000000 in
theorem xFw (hR:HR w A M B H) (hB:B<=w.heap.size) {o:Oper} {ρc:Operand->Value} {c:Call} {t tt:TypeId} {os ox:Operand} {xs xx r:AV} {H':List Box} (ho:o.op=.call c) (bg:c.callee=.builtin .append)
  (bn:c.argTypes.toList=[t,tt]) (bq:c.args.toList=[os,ox]) (hs:Rel w A M (ρc os) xs) (hx:Rel w A M (ρc ox) xx) (h:absAppC P H t tt xs xx=some (r,H')) :
  Writes P o ρc w A M B r H':=by
 unfold absAppC at h;split at h
 case h_2=>simp at h
 rename_i ti n ver off len b6;split at h
 case h_2=>simp at h
 rename_i e hd;split at h
 case h_2=>simp at h
 rename_i te bx bc aj;split at h
 case h_2=>simp at h
 rename_i ys pm bz;split at h
 case isFalse=>simp at h
 rename_i b0;obtain ⟨rfl,ac,a2,hsz,hC,b4,bi,rfl,bh,bf,a0,b1,ar,bv,a6⟩:=b0;simp only [z6,zb] at h;obtain ⟨rfl,rfl⟩:=h;have hu:P.underlying t=some (.slice e):=by rw [xlo b6,hd]
 obtain ⟨i,z,ag,b8,ao,ab,a1,b3,_⟩:=xaV bc;have a5:=xr1 (ty:=o.type) hR bc bf hu ag hx bz;have hts':c.argTypes=#[t,tt]:=by apply Array.ext';simpa using bn
 have has':c.args=#[os,ox]:=by apply Array.ext';simpa using bq
 have ai:∀ v w',(Builtin.append_ #[t,tt] o.type #[ρc os,ρc ox]).run P w=.ok v w'->(execOp ρc o).run P w=.ok (.value v) w':=by
  intro v w' hv;simp [execOp,ho,resolve,bg,hts',has',invoke,builtin,hv,Go.resolve]
 rcases a5 with ⟨rfl,_⟩|⟨_,bw,news,aa,a9,Y⟩
 . simp at bv
 obtain ⟨m,a,hm,O,au,ae,ha⟩:=xjg hR hs aj;obtain ⟨aw,a7⟩:=xay aj;rw [xbz] at aw;simp only [Nat.sub_zero,zH] at ae au;have V:m.sz=te.sz:=by rw [<-O.sz,hsz]
 have bb:m.ty=e:=by rw [<-O.ty,b4]
 have a4:m.ver=ver:=by rw [<-O.ver,a7]
 have b7:len+ys.length<=4611686018427387904:=b1;have hnil':∀ y,y∈ys->y.cells.getD (xM0 bx.ty) .top=.nils:=fun y hy=>by
  have:=zI.1 a6 y hy;generalize y.cells.getD (xM0 bx.ty) .top=q at this;cases q<;>first|rfl|(simp [isNils] at this)
 have hok':∀ y,y∈ys->y.okElem m.sz=true:=fun y hy=>by rw [V];exact bw y hy
 have hH':(⟨ver+1,te.sz,bx.ty,bx.xs++ys.map (newRow bx.ty te.sz),false,true⟩:Box)=⟨bx.ver+1,bx.sz,bx.ty,bx.xs++ys.map (newRow bx.ty bx.sz),false,true⟩:=by rw [hsz,a7]
 rw [hH'];have b2:Rel w A M z te.zero:=by rw [b3];exact xcL w A M z
 obtain ⟨b9,_⟩:=b2.cells (xaF ar);have ca:=xan ar;have ah:∀ (c1:Array Value) (cap:Nat),c1.size=cap*te.sz->len+ys.length<=cap->cap<=maxLen ->
   (∀ i j,i<bx.xs.length->j<m.sz->Rel w A (MV M bx j) (c1.getD (i*m.sz+j) undef) (xNi n i j bx.ty ((bx.xs.getD i .top).cells.getD j .top))) ->
   (∀ k,k<ys.length*te.sz->c1.getD (len*te.sz+k) undef=news.getD k undef) ->
   (Builtin.append_ #[t,tt] o.type #[ρc os,ρc ox]).run P w=.ok (.slice (some ⟨w.heap.size,0,none⟩) (len+ys.length) cap) (w.drew.alloc (.cells c1 e)) ->
   Writes P o ρc w A M B (.osl (.b n) (ver+1) 0 (len+ys.length)) (H.set n ⟨bx.ver+1,bx.sz,bx.ty,bx.xs++ys.map (newRow bx.ty bx.sz),false,true⟩):=by
  intro c1 cap ak ad af ba be Q;have W:Below w.heap.size w (w.drew.alloc (.cells c1 e)):=((Below.refl _ _).drew).alloc (by simp) _
  have hA:∀ b,b<w.heap.size->(APut A w.heap.size false b->A b):=fun b hb h=>by
   rcases h with h|⟨h,_⟩
   . exact h
   . omega
  have bu:(w.drew.alloc (.cells c1 e)).heap[w.heap.size]?=some (.cells c1 e (0,0)):=heap_alloc_new w.drew (.cells c1 e);obtain ⟨M',g1,g2,g3,g4⟩:=hR.grown (m':=⟨w.heap.size,ver+1,te.sz,cap,e⟩) (w':=w.drew.alloc (.cells c1 e)) (A':=APut A w.heap.size false) (c':=c1) (ys:=ys) hm aw O a2 hC (O.nomap (xcc aj)) bi (by rw [V];exact bh)
   (fun b hb _=>W.block b hb) W.size hA (fun x m0 _ h0 c0=>by
    obtain ⟨cb,_,k2⟩:=hR.box x m0 h0;exact ⟨W.block _ (k2.lt c0),.inl⟩) (by simp [a4]) V.symm bb.symm (by simp;omega) af hB (by simp) (.inr ⟨rfl,rfl⟩) bu (by simp [V,ak]) (.inr (zd _)) ba
   (fun i' j U hj=>by
    rw [V] at hj |-;rw [Nat.add_mul,Nat.add_assoc,<-ac,be _ (xc8 U hj)];exact a9 i' j U hj) hok' hnil' (fun b hb=>by
     rcases hb with hb|⟨rfl,_⟩
     . have:=hR.lt b hb;simp;omega
     . simp)
  exact ⟨_,_,APut A w.heap.size false,M',_,ai _ _ Q,.inl rfl,W.mono hB,g2,fun b hb=>⟨hA b hb,.inl⟩,fun b hb _=>W.block b hb,⟨fun b hb _=>W.block b hb,fun x m0 h0 c0=>by
   rcases g4 x m0 h0 c0 with ⟨_,rfl⟩|⟨h1,_⟩
   . exact .inr (zd _)
   . exact .inl ⟨x,m0,h1,c0,rfl⟩⟩,g1,.osl _ (.b n) (ver+1) 0 (len+ys.length) _ g3 (zd _) rfl fun _=>⟨by simpa using ad,some ⟨w.heap.size,0,none⟩,by simp,fun _=>by simp⟩⟩
 rcases Nat.eq_zero_or_pos m.cap with J|J
 ·
  have bt:bx.xs=[]:=zA (by omega)
  have bm:len=0:=by omega
  subst bm;rw [J] at ae;have ad:=grownCap_ge w (0+ys.length) 0 e;have af:=grownCap_le_maxLen w (0+ys.length) 0 e (by unfold maxLen;omega)
  have am:(Builtin.zeroCells z.cells (grownCap w (0+ys.length) 0 e - ys.length)).size=(grownCap w (0+ys.length) 0 e - ys.length)*te.sz:=by rw [size_zeroCells];congr 1;omega
  refine ah (news.toArray++Builtin.zeroCells z.cells (grownCap w (0+ys.length) 0 e - ys.length)) (grownCap w (0+ys.length) 0 e) (by rw [Array.size_append,List.size_toArray,aa,am,<-Nat.add_mul];congr 1;omega) ad af (fun i' j U _=>by rw [bt] at U;simp at U) (fun k hk=>?_) ?_
  . rw [show 0*te.sz+k=k by omega]
    simp only [zu,Array.getElem?_append,List.size_toArray,aa,hk,if_true,List.getElem?_toArray,z7]
  . rw [ae];cases a with
    | none =>
     have Q:=(Y i z ag ao ab.symm).nil (by omega) (by rw [<-a1];simp at a0;omega)
     simpa using Q
    | some a =>
     have Q:=(Y i z ag ao ab.symm).grow a 0 0 [] (by simp) (by simp) (by omega) (by omega) (growslice_fits (by omega) (by rw [<-a1];exact a0))
     simpa using Q
 have b5:=ha J;subst b5;simp only [Nat.zero_mul] at ae;obtain ⟨c0,h1,h2,h3⟩:=O.cells J
 replace h1:=h1.plain (O.nomap (xcc aj))
 have a8:A m.b:=(O.guard J).1 a2;have bp:len<=m.cap:=au;by_cases Z:len+ys.length<=m.cap
 ·
  have al:len*te.sz+news.length<=c0.toList.length:=by
   have bk:c0.toList.length=m.cap*te.sz:=by simp [h2,V]
   rw [aa,<-Nat.add_mul,bk];exact Nat.mul_le_mul_right _ Z
  have Q:(Builtin.append_ #[t,tt] o.type #[ρc os,ρc ox]).run P w=.ok (.slice (some ⟨m.b,0,none⟩) (len+ys.length) m.cap) (w.setRow m.b (xNM c0.toList (len*te.sz) news).toArray):=by
   have az:len*i.size+news.length<=c0.size:=by
    rw [aa,<-ab,<-Nat.add_mul,h2,V];exact Nat.mul_le_mul_right _ Z
   have:=(Y i z ag ao ab.symm).room m.b len m.cap c0 (by rw [<-bb];exact h1) Z az
   rw [ae,this,<-ab];rfl
  generalize a3:(xNM c0.toList (len*te.sz) news).toArray=c1 at Q;have bo:c1.size=m.cap*m.sz:=by rw [<-a3];have:=xjn al;simp at this |-;omega
  have hs':(w.setRow m.b c1).heap.size=w.heap.size:=by simp [World.setRow]
  have hw:∀ b,b<w.heap.size->¬ A b->(w.setRow m.b c1).heap[b]?=w.heap[b]?:=fun b _ hb=>setRow_other w m.b b c1 fun e=>hb (e▸a8)
  obtain ⟨M',g1,g2,g3,g4⟩:=hR.grown (m':=⟨m.b,ver+1,m.sz,m.cap,m.ty⟩) (w':=w.setRow m.b c1) (A':=A) (c':=c1) (ys:=ys) hm aw O a2 hC (O.nomap (xcc aj)) bi (by rw [V];exact bh)
   hw (by rw [hs'];exact zd _) (fun _ _ h=>h) (fun x m0 hx h0 aq=>⟨setRow_other w m.b m0.b c1 fun e=>hx (hR.inj x (.b n) m0 m h0 hm aq J e),fun h=>h⟩) (by simp [a4]) rfl rfl (by simp;omega) O.capm (O.low J) (by rw [hs'];exact O.lt J) a8
   (setRow_heap w m.b c0 c1 m.ty (0,0) h1) bo (.inl ⟨rfl,J⟩)
   (fun i' j U hj=>by
    rw [<-a3,xeF,xhn al,if_neg (by
     have h9:=xc8 U hj;rw [<-ac,V] at h9;rw [V];omega),xbO]
    exact h3 i' j U hj)
   (fun i' j U hj=>by
    rw [V] at hj |-;rw [Nat.add_mul,Nat.add_assoc,<-ac,<-a3,xeF,xhn al,if_pos (by have:=xc8 U hj;rw [aa];omega),show len*te.sz+(i'*te.sz+j) - len*te.sz=i'*te.sz+j by omega]
    exact a9 i' j U hj) hok' hnil' (fun b hb=>by rw [hs'];exact hR.lt b hb)
  exact ⟨_,w.setRow m.b c1,A,M',_,ai _ _ Q,.inl rfl,⟨rfl,rfl,rfl,by rw [hs'];exact zd _,fun k hk=>setRow_other w m.b k c1 fun e=>by have:=O.low J;omega⟩,g2,fun _ _=>Iff.rfl,hw,⟨fun b _ hb=>setRow_other w m.b b c1 fun e=>hb (.b n) m hm J e.symm,fun x m0 h0 aq=>by
   rcases g4 x m0 h0 aq with ⟨_,rfl⟩|⟨bj,_⟩
   . exact .inl ⟨.b n,m,hm,J,rfl⟩
   . exact .inl ⟨x,m0,bj,aq,rfl⟩⟩,g1,.osl _ (.b n) (ver+1) 0 (len+ys.length) _ g3 (zd _) rfl fun _=>⟨by simpa using Z,some ⟨m.b,0,none⟩,by simp,fun _=>by simp⟩⟩
 . have ax:∀ j u,(c0.toList.take (len*te.sz))[j]?=some u->w.cell? ((⟨m.b,0,none⟩:Addr).add j)=some u:=by
    intro j u an;rw [List.getElem?_take] at an;split at an
    . rw [xfY,zH];simp [World.cell?,h1];simpa using an
    . simp at an
   have ap:(c0.toList.take (len*te.sz)).length=len*te.sz:=by
    simp only [zt,Array.length_toList,h2,V];have:len*te.sz<=m.cap*te.sz:=Nat.mul_le_mul_right _ bp;omega
   have Q:=(Y i z ag ao ab.symm).grow ⟨m.b,0,none⟩ len m.cap (c0.toList.take (len*te.sz)) (by rw [ap,ab]) ax (by omega) (by omega) (growslice_fits (by omega) (by rw [<-a1];exact a0))
   have ad:=grownCap_ge w (len+ys.length) m.cap e;have af:=grownCap_le_maxLen w (len+ys.length) m.cap e (by unfold maxLen;omega)
   generalize hcap:grownCap w (len+ys.length) m.cap e=cap at Q ad af;have am:(Builtin.zeroCells z.cells (cap - (len+ys.length))).size=(cap - (len+ys.length))*te.sz:=by rw [size_zeroCells];congr 1;omega
   generalize ay:(c0.toList.take (len*te.sz)).toArray++news.toArray++Builtin.zeroCells z.cells (cap - (len+ys.length))=c1 at Q;have ak:c1.size=cap*te.sz:=by
    rw [<-ay];simp only [Array.size_append,List.size_toArray,ap,aa,am,<-Nat.add_mul];congr 1;omega
   refine ah c1 cap ak ad af (fun i' j U hj=>?_) (fun k hk=>?_) (by rw [ae];exact Q)
   . have hk:=xc8 U hj;rw [<-ac,V] at hk;have e1:c1.getD (i'*m.sz+j) undef=c0.getD (i'*m.sz+j) undef:=by
      rw [<-xbO,<-xbO,<-ay,V];simp only [Array.toList_append,zw,z7,zP,ap,hk,if_true,List.getElem?_take]
     rw [e1];exact h3 i' j U hj
   . rw [<-xbO,<-ay];simp only [Array.toList_append,zw,z7,zP,ap,show ¬ len*te.sz+k<len*te.sz by omega,if_false,aa,show len*te.sz+k - len*te.sz=k by omega,hk,if_true]
def mkd (H:List Box):AV->Bool
 | .own (.b n) _ _ _=>match H[n]? with
  | some bx=>isC bx.ty
  | none=>false
 | .osl (.b n) _ _ _=>match H[n]? with
  | some bx=>isC bx.ty
  | none=>false
 | _=>false
def isRowRef:AV->Bool
 | .osl (.r _ _ _) _ _ _=>true
 | _=>false
def absTake (P:Program) (H:List Box) (t tt:TypeId) (s x:AV):Option (AV×List Box) :=
 match s with
 | .osl (.r n i j) ver off len=>match H[n]? with
  | some bx=>match (bx.xs.getD i .top).cells.getD j .top with
   | .list sz ys=>if xMW bx.ty j=true/\bx.pm=true/\j<bx.sz/\i<bx.xs.length/\(bx.xs.getD i .top).cells.length=bx.sz/\ver=2*ys.length/\off=0/\len=ys.length then
    xNY P (H.set n (xM2 bx bx.ver i j (.int .i64 ys.length))++[⟨0,sz,rowTy bx.ty,ys,bx.frz,true⟩]) t tt (.osl (.b H.length) 0 0 len) x else none
   | _=>none
  | none=>none
 | _=>none
theorem Writes.pre {o:Oper} {ρc:Operand->Value} {x:AV} {H':List Box} {M1:Id->Option MB} (hm:Mv w A M w A M1) (h:Writes P o ρc w A M1 B x H'):Writes P o ρc w A M B x H':=by
 obtain ⟨n,w',A',M',v,h1,h2,h3,h4,h5,h6,h7,h8,h9⟩:=h;refine ⟨n,w',A',M',v,h1,h2,h3,hm.ext.trans h4,h5,h6,⟨fun b hb J=>h7.1 b hb fun id m q h0 e=>?_,fun id m' q h0=>?_⟩,h8,h9⟩
 . rcases hm.touch.2 id m q h0 with ⟨i,m1,g1,g2,g3⟩|g1
   . exact J i m1 g1 g2 (by rw [<-g3,e])
   . omega
 . rcases h7.2 id m' q h0 with ⟨i,m1,g1,g2,g3⟩|g1
   . rcases hm.touch.2 i m1 g1 g2 with ⟨i2,m2,k1,k2,k3⟩|k1
     . exact .inl ⟨i2,m2,k1,k2,by rw [g3,k3]⟩
     . exact .inr (by rw [g3];exact k1)
   . exact .inr g1
theorem xGt (hR:HR w A M B H) (hB:B<=w.heap.size) {o:Oper} {ρc:Operand->Value} {c:Call} {t tt:TypeId} {os ox:Operand} {xs xx r:AV} {H':List Box} (ho:o.op=.call c) (J:c.callee=.builtin .append)
  (Q:c.argTypes.toList=[t,tt]) (V:c.args.toList=[os,ox]) (hs:Rel w A M (ρc os) xs) (hx:Rel w A M (ρc ox) xx) (h:absTake P H t tt xs xx=some (r,H')) :
  Writes P o ρc w A M B r H':=by
 unfold absTake at h;split at h
 case h_2=>simp at h
 rename_i n i j ver off len;split at h
 case h_2=>simp at h
 rename_i bx hb;split at h
 case h_2=>simp at h
 rename_i sz ys q;split at h
 case isFalse=>simp at h
 rename_i U;obtain ⟨W,Y,hj,hi,O,rfl,rfl,rfl⟩:=U;obtain ⟨m,hm,_⟩:=Rel.osl_inv hs;obtain ⟨d1,d2,d3⟩:=hR.detach hb W q hj O hm;exact Writes.pre d2 (xvM d1 hB ho J Q V (d3 _ hs) (hx.mono (fun _ _ _=>rfl) (zd _) (fun _ _ h=>h) d2.ext) h)
theorem xKe {t:TypeId} (q:xMX t=false):isC (rty t)=false:=by
 unfold rty;split
 . rw [q];show isC (t % 1048576)=false;have h:t % 1048576<1048576:=Nat.mod_lt _ (by omega)
   unfold isC;cases hb:Nat.ble 1048576 (t % 1048576) with
   | false=>rfl
   | true=>have:=Nat.le_of_ble_eq_true hb;exact absurd h (Nat.not_lt.2 this)
 . assumption
theorem HR.unmark (hR:HR w A M B H) {n:Nat} {bx:Box} (hb:H[n]?=some bx) (hC:isC bx.ty=true) (af:xMX bx.ty=false) (ad:rowsOk bx bx.xs=true) :
  ∃ A' M',HR w A' M' B (H.set n ⟨bx.ver,bx.sz,rty bx.ty,bx.xs,bx.frz,true⟩)/\Mv w A M w A' M'/\∀ b,b<B->A b->A' b:=by
 have hn:n<H.length:=xcG hb;let A':Nat->Prop:=fun b=>A b/\¬ ∃ i j m0,M (.r n i j)=some m0/\0<m0.cap/\m0.b=b
 let M':Id->Option MB:=fun x=>match x with
  | .b _=>M x
  | .r k i j=>if k=n then (M x).map fun _=>⟨0,tombB.ver,0,0,0⟩ else M x
 have ai:∀ k,M' (.b k)=M (.b k):=fun k=>rfl
 have O:∀ i j m0,M (.r n i j)=some m0->M' (.r n i j)=some ⟨0,tombB.ver,0,0,0⟩:=fun i j m0 h=>by simp [M',h]
 have Y:∀ i j,M (.r n i j)=none->M' (.r n i j)=none:=fun i j h=>by simp [M',h]
 have Q:∀ x:Id,x.base≠n->M' x=M x:=fun x hx=>by
  cases x with
  | b k=>rfl
  | r k i j=>simp only [Id.base] at hx;simp [M',hx]
 have q:=ad;unfold rowsOk at q;rw [hC] at q;simp only [xNp,zf,zI] at q;obtain ⟨ah,q⟩:=q;have aa:∀ i j m0,M (.r n i j)=some m0->xMW bx.ty j=true/\i<bx.xs.length/\m0.ver<tombB.ver:=fun i j m0 h=>by
  obtain ⟨rb,k1,k2⟩:=hR.box _ m0 h;obtain ⟨e1,e2,e3,e4⟩:=xhR hb hC k1;obtain ⟨ys,hy⟩:=xiG (q _ (xau e3));rw [xr0 e1,hy] at e4;subst e4;have h1:2*ys.length=m0.ver:=k2.ver;have h2:ys.length<=m0.cap:=k2.fits;have h3:=k2.capm;unfold maxLen at h3;refine ⟨e1,e3,?_⟩;show m0.ver<1208925819614629174706176;omega
 have Z:MExt M M':=fun x m0 h=>by
  by_cases hx:x.base=n
  . cases x with
    | b k=>exact ⟨m0,h,.inl rfl⟩
    | r k i j =>
     simp only [Id.base] at hx;subst hx;exact ⟨_,O i j m0 h,.inr (aa i j m0 h).2.2⟩
  . exact ⟨m0,by rw [Q x hx];exact h,.inl rfl⟩
 have J:∀ x m',M' x=some m'->0<m'.cap->M x=some m'/\∀ i j,x≠.r n i j:=fun x m' h h0=>by
  by_cases hx:x.base=n
  . cases x with
    | b k=>exact ⟨h,fun i j e=>by cases e⟩
    | r k i j =>
     simp only [Id.base] at hx;subst hx;cases hm:M (.r k i j) with
     | none=>rw [Y i j hm] at h;cases h
     | some m0 =>
      rw [O i j m0 hm] at h;cases h;exact absurd h0 (by simp)
  . rw [Q x hx] at h;exact ⟨h,fun i j e=>hx (by rw [e];rfl)⟩
 have hA:∀ b,b<w.heap.size->A' b->A b:=fun b _ h=>h.1
 have U:∀ (x:Id) m0,(∀ i j,x≠.r n i j)->M x=some m0->0<m0.cap->A m0.b->A' m0.b:=fun x m0 hx h h0 ag=>by
  refine ⟨ag,?_⟩;rintro ⟨i,j,m1,e1,e2,e3⟩;exact hx i j (hR.inj x (.r n i j) m0 m1 h e1 h0 e2 e3.symm)
 have ac:(H.set n ⟨bx.ver,bx.sz,rty bx.ty,bx.xs,bx.frz,true⟩)[n]?=some ⟨bx.ver,bx.sz,rty bx.ty,bx.xs,bx.frz,true⟩:=zL hn;have W:isC (rty bx.ty)=false:=xKe af;refine ⟨A',M',hR.rebuild (fun k=>k=n) (fun k hk _=>zX (fun e=>hk e.symm)) (fun x hx=>Q x hx) (fun x m0 hx h0 c0=>⟨rfl,U x m0 (fun i j e=>hx (by rw [e];rfl)) h0 c0⟩) (fun _ _ _=>rfl) (zd _) hA Z (fun x m' hx h=>?_) (fun x m1 x' m2 _ h1 h2 c1 c2 he=>?_) (fun b hb=>hR.lt b hb.1),
  ⟨zd _,fun _ _ _=>rfl,hA,fun b _ h ae=>⟨h,?_⟩,Z,⟨fun _ _ _=>rfl,fun x m' h h0=>.inl ⟨x,m',(J x m' h h0).1,h0,rfl⟩⟩⟩,fun b aj h=>⟨h,?_⟩⟩
 . cases x with
   | b k =>
    have hx:k=n:=hx;subst hx;have h:M (.b k)=some m':=h;obtain ⟨bx',k1,k2⟩:=hR.box _ m' h;rw [xbz,hb] at k1;cases k1;refine ⟨_,ac,k2.ver,k2.sz,by rw [xaS W];exact k2.ty,k2.capm,k2.fits,k2.ok,k2.low,k2.lt,fun h0=>?_,fun h0=>?_⟩
    . obtain ⟨c,c1,c2,c3⟩:=k2.cells h0;refine ⟨c,c1,c2,fun i j hi hj=>?_⟩
      have h4:=c3 i j hi hj;rw [xam W,xaO (bx:=⟨bx.ver,bx.sz,rty bx.ty,bx.xs,bx.frz,true⟩) W];show Rel w A' xM7 _ _;cases ab:xMW bx.ty j with
      | true =>
       obtain ⟨ys,hy⟩:=xiG (q _ (xau hi));rw [<-xr0 ab] at hy;unfold xNi MV at h4;simp only [ab] at h4;rw [hy] at h4 |-;exact xDv hR hA hb hC hy h4 fun m0 e1 e2 e3=>e3.2 ⟨i,j,m0,e1,e2,rfl⟩
      | false =>
       unfold xNi MV at h4;simp only [ab,ah] at h4;exact h4.mono (fun _ _ _=>rfl) (zd _) hA (MExt.refl _)
    . rw [k2.guard h0];exact ⟨U (.b k) m' (fun i j e=>by cases e) h h0,fun h=>h.1⟩
   | r k i j =>
    have hx:k=n:=hx;subst hx;cases hm:M (.r k i j) with
    | none=>rw [Y i j hm] at h;cases h
    | some m0 =>
     rw [O i j m0 hm] at h;cases h;have V:∀ {p:Prop},0<(0:Nat)->p:=fun h=>absurd h (by simp)
     exact ⟨tombB,xdo ac W,rfl,rfl,rfl,zQ _,zQ _,fun y hy=>by simp [tombB] at hy,V,V,V,V⟩
 . exact hR.inj x x' m1 m2 (J x m1 h1 c1).1 (J x' m2 h2 c2).1 c1 c2 he
 . rintro ⟨i,j,m1,e1,e2,e3⟩;exact ae _ m1 e1 e2 e3
 . rintro ⟨i,j,m1,e1,e2,e3⟩;obtain ⟨rb,_,k2⟩:=hR.box _ m1 e1;have:=k2.low e2;omega
end
section
open Go.Maps Go.MapKept
def isKey (s:List UInt8) (x:AV):Bool:=match x with
 | .str k=>k==s
 | _=>false
def mapIx:List AV->List UInt8->Option Nat
 | [],_=>none
 | e::es,s=>match isKey s (e.cells.getD 0 .top) with
  | true=>some 0
  | false=>(mapIx es s).map (·+1)
def xNo (xs:List AV) (s:List UInt8):Bool:=(mapIx xs s).isSome
def xNc (z:AV) (xs:List AV) (s:List UInt8):AV:=match mapIx xs s with
 | some i=>(xs.getD i .top).cells.getD 1 .top
 | none=>z
def xNa (xs:List AV) (s:List UInt8) (v:AV):List AV:=match mapIx xs s with
 | some i=>xs.set i (.agg [.str s,v])
 | none=>xs++[.agg [.str s,v]]
def mapTy (t:TypeId):TypeId:=1208925819614629241815040+4294967296*t
theorem xuP:∀ {xs:List AV} {s:List UInt8},(∀ i,i<xs.length->isKey s ((xs.getD i .top).cells.getD 0 .top)=false)->mapIx xs s=none
 | [],_,_=>rfl
 | e::es,s,h=>by
  have h0:=h 0 (by simp)
  simp only [List.getD_cons_zero] at h0;simp only [mapIx,h0];rw [xuP fun i hi=>by simpa using h (i+1) (by simpa using hi)]
  rfl
theorem xuQ:∀ {xs:List AV} {s:List UInt8} {j:Nat},j<xs.length->isKey s ((xs.getD j .top).cells.getD 0 .top)=true->(∀ i,i<j->isKey s ((xs.getD i .top).cells.getD 0 .top)=false)->mapIx xs s=some j
 | [],_,_,h,_,_=>by simp at h
 | e::es,s,0,_,h1,_=>by simp only [List.getD_cons_zero] at h1;simp only [mapIx,h1]
 | e::es,s,j+1,h,h1,h2=>by
  have h0:=h2 0 (by omega)
  simp only [List.getD_cons_zero] at h0;simp only [mapIx,h0];rw [xuQ (j:=j) (by simpa using h) (by simpa using h1) fun i hi=>by simpa using h2 (i+1) (by omega)]
  rfl
theorem xs4 {s t:ByteArray} (h:s.data.toList=t.data.toList):s=t:=by
 cases s;cases t;simp only at h;congr 1;exact Array.ext' h
structure MapAt (w:World) (A:Nat->Prop) (M:Id->Option MB) (m:MB) (xs:List AV) (es:Array MapEntry) (clock:Nat):Prop where
 heap:w.heap[m.b]?=some (.map es clock)
 size:es.size=xs.length
 keys:∀ (k:Nat) (x:MapEntry),es[k]?=some x->∃ t:ByteArray,x.key=.string t/\(xs.getD k .top).cells.getD 0 .top=.str t.data.toList/\t.size<=maxLen
 vals:∀ (k:Nat) (x:MapEntry),es[k]?=some x->Rel w A M x.val ((xs.getD k .top).cells.getD 1 .top)
 apart:∀ (k l:Nat) (x y:MapEntry),es[k]?=some x->es[l]?=some y->x.key=y.key->k=l
theorem MapAt.miss {w:World} {A:Nat->Prop} {M:Id->Option MB} {m:MB} {xs:List AV} {es:Array MapEntry} {clock:Nat} (h:MapAt w A M m xs es clock) {t:ByteArray} (q:∀ x∈es.toList,x.key≠.string t):mapIx xs t.data.toList=none :=
 xuP fun i hi=>by
  have hi':i<es.size:=by rw [h.size];exact hi
  obtain ⟨t',h1,h2,_⟩:=h.keys i es[i] (by simp [hi'])
  rw [h2];show (t'.data.toList==t.data.toList)=false;rw [beq_eq_false_iff_ne];intro e;exact q es[i] (by simp) (by rw [h1,xs4 e])
theorem MapAt.hit {w:World} {A:Nat->Prop} {M:Id->Option MB} {m:MB} {xs:List AV} {es:Array MapEntry} {clock:Nat} (h:MapAt w A M m xs es clock) {t:ByteArray} {j:Nat} {e0:MapEntry} (hj:es.toList[j]?=some e0) (hk:e0.key=.string t):mapIx xs t.data.toList=some j/\j<xs.length:=by
 have q:es[j]?=some e0:=by simpa using hj
 have hj':j<es.size:=by
  rcases zJ j es.size with h|h
  . exact h
  . simp [Array.getElem?_eq_none h] at q
 have J:j<xs.length:=by rw [<-h.size];exact hj'
 refine ⟨xuQ J ?_ fun i hi=>?_,J⟩
 . obtain ⟨t',h1,h2,_⟩:=h.keys j e0 q;rw [h2];rw [hk] at h1;injection h1 with h1;rw [h1];show (t'.data.toList==t'.data.toList)=true;exact beq_self_eq_true _
 . have hi':i<es.size:=by omega
   obtain ⟨t',h1,h2,_⟩:=h.keys i es[i] (by simp [hi'])
   rw [h2];show (t'.data.toList==t.data.toList)=false;rw [beq_eq_false_iff_ne];intro e;have:=h.apart i j es[i] e0 (by simp [hi']) q (by rw [h1,hk,xs4 e])
   omega
theorem xBg {xs:List AV} {sz k j:Nat} (q:∀ x,x∈xs->x.okElem sz=true) (hk:k<xs.length) (hj:j<sz):((xs.getD k .top).cells.getD j .top).one=true:=by
 have h:=q _ (xau hk);have h1:=xaF h;have h2:=xan h;rw [zI] at h1;exact h1 _ (xau (by omega))
theorem xzK {w:World} {A:Nat->Prop} {M:Id->Option MB} {t:ByteArray} {x:AV} (h:Rel w A M (.string t) x) (hx:x.one=true) (J:∀ id ver i j,x≠.own id ver i j) (q:∀ id ver i j,x≠.osl id ver i j):x=.str t.data.toList:=by
 generalize hv:Value.string t=v at h;cases h<;>first|(cases hv;rfl)|(cases hv;done)|(simp [AV.one] at hx;done)|(exact absurd rfl (J _ _ _ _))|(exact absurd rfl (q _ _ _ _))
theorem BoxAt.mapAt {w:World} {A:Nat->Prop} {M:Id->Option MB} {B:Nat} {id:Id} {m:MB} {bx:Box} (h:BoxAt w A M B id m bx) (hm:xMX bx.ty=true) (h0:xMW bx.ty 0=false) (h1:xMW bx.ty 1=false) (hs:bx.sz=2) (hp:bx.pm=true) (hcap:0<m.cap) :
  ∃ es clock,MapAt w A xM7 m bx.xs es clock/\m.cap=maxLen:=by
 obtain ⟨c,c1,c2,c3⟩:=h.cells hcap;have O:xMX m.ty=true:=by
  rw [<-h.ty];unfold rty;split
  . rw [hm];exact hm
  . exact hm
 unfold HoldsC at c1;rw [O] at c1;obtain ⟨es,clock,d1,d2,d3,d4,d5,d6⟩:=c1;have hsz:m.sz=2:=by rw [<-h.sz];exact hs
 have J:∀ (k:Nat) (x:MapEntry),es[k]?=some x->k<bx.xs.length:=fun k x hx=>by
  rw [<-d2];rcases zJ k es.size with h|h
  . exact h
  . simp [Array.getElem?_eq_none h] at hx
 have q:∀ (k j:Nat),k<bx.xs.length->j<2->xMW bx.ty j=false->Rel w A xM7 (c.getD (k*m.sz+j) undef) ((bx.xs.getD k .top).cells.getD j .top):=fun k j hk hj U=>by
  have h4:=c3 k j hk (by rw [hsz];exact hj)
  unfold MV xNi at h4;simp only [U,hp] at h4;exact h4
 refine ⟨es,clock,⟨d1,d2,fun k x hx=>?_,fun k x hx=>?_,d6⟩,d3⟩
 . obtain ⟨t,ht,Q⟩:=d5 k x hx;have hk:=J k x hx;have h4:=q k 0 hk (by omega) h0
   rw [Nat.add_zero,(d4 k x hx).1,ht] at h4;exact ⟨t,ht,xzK h4 (xBg h.ok hk (by rw [hsz];omega)) (fun id ver i j e=>by rw [e] at h4;obtain ⟨_,hh,_⟩:=Rel.own_inv h4;cases hh) (fun id ver i j e=>by rw [e] at h4;obtain ⟨_,hh,_⟩:=Rel.osl_inv h4;cases hh),Q⟩
 . have h4:=q k 1 (J k x hx) (by omega) h1
   rw [(d4 k x hx).2] at h4;exact h4
def getMap (H:List Box) (n:Nat) (ver:Nat):Option Box:=match H[n]? with
 | some bx=>if bx.ver=ver/\xMX bx.ty=true/\xMW bx.ty 0=false/\xMW bx.ty 1=false/\bx.sz=2/\bx.pm=true then some bx else none
 | none=>none
def mapNum (P:Program) (t e:TypeId):Option TypeId:=match P.underlying e with
 | some (.slice e2)=>match xMU P e2 with
  | some te=>some (1208925819614629174706176+4503599627370496*t+1048576*(2+64*(te.sz+64*e2)))
  | none=>none
 | _=>some (mapTy t)
def absMakeM (P:Program) (H:List Box) (t:TypeId):Option (AV×List Box):=match P.underlying t with
 | some (.map k e)=>match P.underlying k,mapNum P t e with
  | some .string,some ty=>if xMX ty=true/\isC ty=true then some (.own H.length 0 0 0,H++[⟨0,2,ty,[],false,true⟩]) else none
  | _,_=>none
 | _=>none
def absLookM (P:Program) (H:List Box) (t:TypeId) (m k:AV) (c:Bool):Option AV:=match m,k,P.underlying t with
 | .own (.b n) ver _ _,.str s,some (.map kt et)=>match P.underlying kt,xMU P et,getMap H n ver with
  | some .string,some te,some bx=>if s.length<=xNJ then some (match c with
   | true=>.tuple [xNc te.zero bx.xs s,.bool (xNo bx.xs s)]
   | false=>xNc te.zero bx.xs s) else none
  | _,_,_=>none
 | _,_,_=>none
def absPutM (P:Program) (H:List Box) (t:TypeId) (m k v:AV):Option (List Box):=match m,k,P.underlying t with
 | .own (.b n) ver _ _,.str s,some (.map kt _)=>match P.underlying kt,getMap H n ver with
  | some .string,some bx=>if bx.frz=false/\v.one=true/\v.pure=true/\bx.xs.length<xNJ/\s.length<=xNJ then some (H.set n ⟨ver,2,bx.ty,xNa bx.xs s v,false,true⟩) else none
  | _,_=>none
 | _,_,_=>none
section
variable {P : Program} {w : World} {A : Nat -> Prop} {M : Id -> Option MB} {B : Nat} {H : List Box}
theorem xtC {n ver:Nat} {bx:Box} (h:getMap H n ver=some bx):H[n]?=some bx/\bx.ver=ver/\xMX bx.ty=true/\xMW bx.ty 0=false/\xMW bx.ty 1=false/\bx.sz=2/\bx.pm=true:=by
 unfold getMap at h;split at h
 . split at h
   . rename_i hb hc;cases h;exact ⟨hb,hc⟩
   . simp at h
 . simp at h
theorem xE8 (hR:HR w A M B H) {v:Value} {n ver i j:Nat} {bx:Box} (h:Rel w A M v (.own (.b n) ver i j)) (hb:getMap H n ver=some bx) :
  ∃ m,M (.b n)=some m/\BoxAt w A M B (.b n) m bx/\v=.map (some m.b)/\0<m.cap:=by
 obtain ⟨O,Q,q,_⟩:=xtC hb;obtain ⟨m,hm,hv,h1,he⟩:=Rel.own_inv h;obtain ⟨bx',h2,h3⟩:=hR.box _ m hm;rw [xbz,O] at h2;cases h2;refine ⟨m,hm,h3,?_⟩;have J:xMX m.ty=true:=by
  rw [<-h3.ty];unfold rty;split
  . rw [q];exact q
  . exact q
 have h0:=he (by rw [<-Q,h3.ver])
 unfold ptrOf at h0;rw [J] at h0;cases hc:m.cap with
 | zero =>
  rw [hc] at h0;simp only at h0;rw [h0] at h1;cases h1
 | succ k =>
  rw [hc] at h0;exact ⟨h0,Nat.succ_pos k⟩
end
theorem xyn {s:List UInt8} {v:AV} (h:v.one=true):(AV.agg [.str s,v]).okElem 2=true:=by
 show (true&&(true&&(v.one&&true)))=true;rw [h];rfl
theorem xgI {P:Program} {k:TypeId} (hk:P.underlying k=some .string) {t:ByteArray} (ht:t.size<=maxLen):keyOf P k (.string t)=some (.string t.data.toList):=by
 simp [keyOf,hk,mapKey,ht]
theorem xk0 {t:ByteArray} (h:t.data.toList.length<=xNJ):t.size<=maxLen:=by
 rw [xne];unfold xNJ at h;unfold maxLen;omega
section
variable {P : Program} {w : World} {A : Nat -> Prop} {M : Id -> Option MB} {B : Nat} {H : List Box}
theorem xFX (hR:HR w A M B H) {o:Oper} {ρc:Operand->Value} {t:TypeId} {om ok:Operand} {c:Bool} {xm xk r:AV} (ho:o.op=.lookup t om ok c) (hm:Rel w A M (ρc om) xm) (hk:Rel w A M (ρc ok) xk) (h:absLookM P H t xm xk c=some r) :
  Writes P o ρc w A M B r H:=by
 unfold absLookM at h;split at h
 case h_2=>simp at h
 rename_i n ver i j s kt et ag;split at h
 case h_2=>simp at h
 rename_i te bx O ac Y;split at h
 case isFalse=>simp at h
 rename_i al;simp only [z6] at h;obtain ⟨m,ap,af,am,ah⟩:=xE8 hR hm Y;obtain ⟨ao,aq,ad,ai,ae,ak,aa⟩:=xtC Y;obtain ⟨es,clock,J,_⟩:=af.mapAt ad ai ae ak aa ah;obtain ⟨t0,aj,ab⟩:=hk.str_inv;subst ab;have Q:∀ x∈es.toList,∃ l,keyOf P kt x.key=some l:=fun x hx=>by
  obtain ⟨k,W,rfl⟩:=zp.1 hx;simp only [Array.length_toList] at W;obtain ⟨t',h1,_,h3⟩:=J.keys k es[k] (by simp [W])
  exact ⟨.string t'.data.toList,by simp only [Array.getElem_toList];rw [h1];exact xgI O h3⟩
 obtain ⟨z,hz,Z⟩:=xyV ac w;have V:Rel w A M z te.zero:=by rw [Z];exact xcL w A M z
 have U:∃ v,(Instr.lookup t (ρc om) (ρc ok) c).run P w=.ok v w/\Rel w A M v r:=by
  rw [am,aj,<-h];rcases xC3 c (Maps.string_keyed O) ag hz J.heap Q (kl:=.string t0.data.toList) (xgI O (xk0 al)) with ⟨h1,h2⟩|⟨j0,e0,h1,h2,h3⟩
  . have q:=J.miss h2;refine ⟨_,h1,?_⟩;cases c
    . simpa [xNc,q] using V
    . simp only [xNc,xNo,q,if_true,Option.isSome];exact .tuple #[z,.bool false] _ rfl fun i hi=>by
       rcases i with _|_|i
       . exact V
       . exact .bool false
       . simp at hi;omega
  . obtain ⟨q,an⟩:=J.hit h1 h2;have hv:=(J.vals j0 e0 (by simpa using h1)).lift M
    refine ⟨_,h3,?_⟩;cases c
    . simpa [xNc,q] using hv
    . simp only [xNc,xNo,q,if_true,Option.isSome];exact .tuple #[e0.val,.bool true] _ rfl fun i hi=>by
       rcases i with _|_|i
       . exact hv
       . exact .bool true
       . simp at hi;omega
 obtain ⟨v,h1,h2⟩:=U;exact ⟨.value v,w,A,M,v,by simp only [execOp,ho,Sem.run_bind,h1,Result.andThen_ok,Sem.run_pure],.inl rfl,Below.refl _ _,MExt.refl M,fun _ _=>Iff.rfl,fun _ _ _=>rfl,⟨fun _ _ _=>rfl,fun id m' h h0=>.inl ⟨id,m',h,h0,rfl⟩⟩,hR,h2⟩
theorem xAk {xs:List AV} {s:List UInt8} {v:AV}:xs.length<=(xNa xs s v).length/\(xNa xs s v).length<=xs.length+1:=by
 unfold xNa;split<;>simp
theorem xF6 (hR:HR w A M B H) {o:Oper} {ρc:Operand->Value} {t:TypeId} {om ok ov:Operand} {xm xk xv:AV} {H':List Box} (ho:o.op=.mapUpdate t om ok ov\/o.op=.insert t om ok ov) (hm:Rel w A M (ρc om) xm) (hk:Rel w A M (ρc ok) xk) (hv:Rel w A M (ρc ov) xv) (h:absPutM P H t xm xk xv=some H') :
  Writes P o ρc w A M B (.tuple []) H':=by
 unfold absPutM at h;split at h
 case h_2=>simp at h
 rename_i n ver i j s kt et bg;split at h
 case h_2=>simp at h
 rename_i bx aj au;split at h
 case isFalse=>simp at h
 rename_i bf;obtain ⟨a0,ah,an,ae,ad⟩:=bf;cases h;obtain ⟨m,af,O,bb,Z⟩:=xE8 hR hm au;obtain ⟨ar,ba,aa,ap,ak,a4,bh⟩:=xtC au;obtain ⟨es,clock,U,hcap⟩:=O.mapAt aa ap ak a4 bh Z;obtain ⟨t0,bc,be⟩:=hk.str_inv;subst be;have ao:∀ x∈es.toList,∃ l,keyOf P kt x.key=some l:=fun x hx=>by
  obtain ⟨k,a6,rfl⟩:=zp.1 hx;simp only [Array.length_toList] at a6;obtain ⟨t',h1,_,h3⟩:=U.keys k es[k] (by simp [a6])
  exact ⟨.string t'.data.toList,by simp only [Array.getElem_toList];rw [h1];exact xgI aj h3⟩
 have ax:Rel w A xM7 (ρc ov) xv:=hv.pure an;have hsz:m.sz=2:=by rw [<-O.sz];exact a4
 have hsz':bx.xs.length=es.size:=U.size.symm;have hA:A m.b:=(O.guard Z).1 a0;have az:∃ J q,(Instr.mapUpdate t (ρc om) (ρc ok) (ρc ov)).run P w=.ok () (ChangeMaps.setBlock w m.b (.map J q))/\J.size=(xNa bx.xs t0.data.toList xv).length /\
   (∀ (k:Nat) (x:MapEntry),J[k]?=some x->∃ t:ByteArray,x.key=.string t/\((xNa bx.xs t0.data.toList xv).getD k .top).cells.getD 0 .top=.str t.data.toList/\t.size<=maxLen) /\
   (∀ (k:Nat) (x:MapEntry),J[k]?=some x->Rel w A xM7 x.val (((xNa bx.xs t0.data.toList xv).getD k .top).cells.getD 1 .top)) /\
   (∀ (k l:Nat) (x y:MapEntry),J[k]?=some x->J[l]?=some y->x.key=y.key->k=l):=by
  rw [bb,bc];rcases xE2 (val:=ρc ov) (Maps.string_keyed aj) bg U.heap ao (kl:=.string t0.data.toList) (xgI aj (xk0 ad)) with ⟨h1,h2⟩|⟨j0,e0,h1,h2,J,h3,h4⟩
  . have al:=U.miss h2;have hp:xNa bx.xs t0.data.toList xv=bx.xs++[.agg [.str t0.data.toList,xv]]:=by unfold xNa;rw [al]
    have Q:∀ (k:Nat) (x:MapEntry),(es.push ⟨.string t0,ρc ov,clock⟩)[k]?=some x->(k<es.size/\es[k]?=some x)\/(k=es.size/\x=⟨.string t0,ρc ov,clock⟩):=fun k x hx=>by
     rw [Array.getElem?_push] at hx;split at hx
     . rename_i e;simp only [z6] at hx;exact .inr ⟨e,hx.symm⟩
     . rcases zJ k es.size with h|h
       . exact .inl ⟨h,hx⟩
       . simp [Array.getElem?_eq_none h] at hx
    refine ⟨_,_,h1,by rw [hp];simp [hsz'],fun k x hx=>?_,fun k x hx=>?_,fun k l x y hx hy e=>?_⟩
    . rw [hp];rcases Q k x hx with ⟨g1,g2⟩|⟨rfl,rfl⟩
      . obtain ⟨t',a1,a2,a3⟩:=U.keys k x g2;refine ⟨t',a1,?_,a3⟩;rw [<-a2];simp [z7,zP,hsz',g1]
      . exact ⟨t0,rfl,by simp [z7,<-hsz',AV.cells],xk0 ad⟩
    . rw [hp];rcases Q k x hx with ⟨g1,g2⟩|⟨rfl,rfl⟩
      . have:=U.vals k x g2;simpa [z7,zP,hsz',g1] using this
      . simpa [z7,<-hsz',AV.cells] using ax
    . rcases Q k x hx with ⟨g1,g2⟩|⟨rfl,rfl⟩<;>rcases Q l y hy with ⟨g3,g4⟩|⟨rfl,rfl⟩
      . exact U.apart k l x y g2 g4 e
      . exact absurd e (h2 x (List.mem_of_getElem? (by simpa using g2)))
      . exact absurd e.symm (h2 y (List.mem_of_getElem? (by simpa using g4)))
      . rfl
  . obtain ⟨al,aq⟩:=U.hit h1 h2;have hp:xNa bx.xs t0.data.toList xv=bx.xs.set j0 (.agg [.str t0.data.toList,xv]):=by unfold xNa;rw [al]
    have Q:∀ (k:Nat) (x:MapEntry),J[k]?=some x->(k≠j0/\es[k]?=some x)\/(k=j0/\x={ e0 with key:=.string t0,val:=ρc ov }):=fun k x hx=>by
     rw [<-Array.getElem?_toList,h3,List.getElem?_set] at hx;split at hx
     . rename_i e;subst e;split at hx
       . simp only [z6] at hx;exact .inr ⟨rfl,hx.symm⟩
       . simp at hx
     . rename_i e;exact .inl ⟨fun e'=>e e'.symm,by simpa using hx⟩
    refine ⟨_,_,h4,by rw [hp,<-Array.length_toList,h3];simp [hsz'],fun k x hx=>?_,fun k x hx=>?_,fun k l x y hx hy e=>?_⟩
    . rw [hp];rcases Q k x hx with ⟨g1,g2⟩|⟨rfl,rfl⟩
      . obtain ⟨t',a1,a2,a3⟩:=U.keys k x g2;refine ⟨t',a1,?_,a3⟩;rw [<-a2];simp [z7,List.getElem?_set,show ¬ j0=k from fun e=>g1 e.symm]
      . exact ⟨t0,rfl,by simp [z7,aq,AV.cells],xk0 ad⟩
    . rw [hp];rcases Q k x hx with ⟨g1,g2⟩|⟨rfl,rfl⟩
      . have:=U.vals k x g2;simpa [z7,List.getElem?_set,show ¬ j0=k from fun e=>g1 e.symm] using this
      . simpa [z7,aq,AV.cells] using ax
    . have a7:es[j0]?=some e0:=by simpa using h1
      have aw:∀ (k:Nat) (x:MapEntry),J[k]?=some x->∃ y:MapEntry,es[k]?=some y/\y.key=x.key:=fun k x hx=>by
       rcases Q k x hx with ⟨g1,g2⟩|⟨rfl,rfl⟩
       . exact ⟨x,g2,rfl⟩
       . exact ⟨e0,a7,h2⟩
      obtain ⟨x',a1,a2⟩:=aw k x hx;obtain ⟨y',b1,b2⟩:=aw l y hy;exact U.apart k l x' y' a1 b1 (by rw [a2,b2,e])
 obtain ⟨J,q,r1,r2,r3,r4,r5⟩:=az;have bk:=xAk (xs:=bx.xs) (s:=t0.data.toList) (v:=xv);have ay:(ChangeMaps.setBlock w m.b (.map J q)).heap[m.b]?=some (.map J q):=by
  simp [ChangeMaps.setBlock,O.lt Z]
 have Y:∀ b,b≠m.b->(ChangeMaps.setBlock w m.b (.map J q)).heap[b]?=w.heap[b]?:=fun b hb=>by
  simp [ChangeMaps.setBlock,Array.getElem?_setIfInBounds,Ne.symm hb]
 have ab:(ChangeMaps.setBlock w m.b (.map J q)).heap.size=w.heap.size:=by simp [ChangeMaps.setBlock]
 have W:∀ b,b<w.heap.size->¬ A b->(ChangeMaps.setBlock w m.b (.map J q)).heap[b]?=w.heap[b]?:=fun b _ hb=>Y b fun e=>hb (e▸hA)
 have ai:n<H.length:=xcG ar;have hR':HR (ChangeMaps.setBlock w m.b (.map J q)) A M B (H.set n ⟨ver,2,bx.ty,xNa bx.xs t0.data.toList xv,false,true⟩):=by
  refine hR.rebuild (fun k=>k=n) (fun k hk _=>zX (fun e=>hk e.symm)) (fun _ _=>rfl) (fun x m0 hx h0 c0=>⟨Y _ fun e=>hx ?_,fun h=>h⟩) W (by rw [ab];exact zd _) (fun _ _ h=>h) (MExt.refl M) (fun x m0 hx h0=>?_) (fun x m1 x' m2 _ h1 h2 c1 c2 he=>hR.inj x x' m1 m2 h1 h2 c1 c2 he) (fun b hb=>by rw [ab];exact hR.lt b hb)
  . have:=hR.inj x (.b n) m0 m h0 af c0 Z e;rw [this];rfl
  . cases x with
    | b k =>
     have hx:k=n:=hx;subst hx;rw [af] at h0;cases h0;have bi:xMX m.ty=true:=by
      rw [<-O.ty];unfold rty;split
      . rw [aa];exact aa
      . exact aa
     refine ⟨⟨ver,2,bx.ty,xNa bx.xs t0.data.toList xv,false,true⟩,by rw [xbz];exact zL ai,ba.symm.trans O.ver,hsz.symm,O.ty,O.capm,?_,fun y hy=>?_,O.low,fun h0=>by rw [ab];exact O.lt h0,fun h0=>?_,fun _=>⟨fun _=>hA,fun _=>rfl⟩⟩
     . show (xNa bx.xs t0.data.toList xv).length<=m.cap;rw [hcap];unfold xNJ at ae;unfold maxLen;omega
     . rw [hsz];have V:(AV.agg [.str t0.data.toList,xv]).okElem 2=true:=xyn ah;have hy:y∈xNa bx.xs t0.data.toList xv:=hy;unfold xNa at hy;split at hy
       . rcases List.mem_or_eq_of_mem_set hy with hy|rfl
         . rw [<-hsz];exact O.ok y hy
         . exact V
       . rcases zG.1 hy with hy|hy
         . rw [<-hsz];exact O.ok y hy
         . simp only [zv] at hy;subst hy;exact V
     . let c':Array Value:=Array.ofFn (n:=maxLen*2) fun k=>match J[k.val / 2]? with
        | some x=>if k.val % 2=0 then x.key else x.val
        | none=>undef
       have bm:J.size<=maxLen:=by
        rw [r2];unfold xNJ at ae;unfold maxLen;omega
       have bj:∀ (k:Nat) (x:MapEntry),J[k]?=some x->k<J.size:=fun k x hx=>by
        rcases zJ k J.size with h|h
        . exact h
        . simp [Array.getElem?_eq_none h] at hx
       have hc':∀ (k:Nat) (x:MapEntry),J[k]?=some x->c'.getD (k*m.sz) undef=x.key/\c'.getD (k*m.sz+1) undef=x.val:=fun k x hx=>by
        have hk:=bj k x hx;rw [hsz];have e1:k*2<maxLen*2:=by omega
        have e2:k*2+1<maxLen*2:=by omega
        constructor
        . rw [zu,Array.getElem?_ofFn,dif_pos e1];simp only [zh,Nat.mul_div_cancel _ (by omega:0<2),hx,Nat.mul_mod_left,if_true]
        . rw [zu,Array.getElem?_ofFn,dif_pos e2];have d1:(k*2+1) / 2=k:=by omega
          have d2:¬ (k*2+1) % 2=0:=by omega
          simp only [zh,d1,hx,d2,if_false]
       refine ⟨c',?_,by rw [hcap,hsz];exact Array.size_ofFn,fun i j hi hj=>?_⟩
       . unfold HoldsC;rw [bi];exact ⟨J,q,ay,r2,hcap,hc',fun k x hx=>by obtain ⟨t',a1,_,a3⟩:=r3 k x hx;exact ⟨t',a1,a3⟩,r5⟩
       . have hi':i<J.size:=by rw [r2];exact hi
         obtain ⟨x,hx⟩:∃ x,J[i]?=some x:=⟨J[i],by simp [hi']⟩
         rw [hsz] at hj;have ad:∀ j,j<2->xMW bx.ty j=false:=fun j hj=>by
          rcases j with _|_|j
          . exact ap
          . exact ak
          . omega
         unfold MV xNi;simp only [ad j hj];show Rel _ A xM7 _ _;have am:∀ {v:Value} {x:AV},Rel w A xM7 v x->Rel (ChangeMaps.setBlock w m.b (.map J q)) A xM7 v x:=fun h=>h.mono W (by rw [ab];exact zd _) (fun _ _ h=>h) (MExt.refl _)
         rcases j with _|_|j
         . rw [Nat.add_zero,(hc' i x hx).1];obtain ⟨t',a1,a2,_⟩:=r3 i x hx;show Rel _ A xM7 _ (((xNa bx.xs t0.data.toList xv).getD i .top).cells.getD 0 .top);rw [a1,a2];exact .str t'
         . rw [(hc' i x hx).2];exact am (r4 i x hx)
         . omega
    | r k i' j' =>
     have hx:k=n:=hx;subst hx;obtain ⟨rb,k1,k2⟩:=hR.box _ m0 h0;have a5:isC bx.ty=true:=by
      cases hc:isC bx.ty with
      | true=>rfl
      | false=>rw [xas hc] at aa;cases aa
     obtain ⟨e2,e3,e4,e5⟩:=xhR ar a5 k1;have bn:2<=j':=by
      rcases j' with _|_|j'
      . rw [ap] at e2;cases e2
      . rw [ak] at e2;cases e2
      . omega
     have ag:∀ (xs:List AV),(∀ x,x∈xs->x.okElem 2=true)->(xs.getD i' .top).cells.getD j' .top=.top:=fun xs a9=>by
      rcases zJ i' xs.length with h|h
      . have:=xan (a9 _ (xau h));rw [z7 (l:=(xs.getD i' .top).cells),zz (by omega)];rfl
      . have:xs.getD i' .top=.top:=by rw [z7,zz h];rfl
        rw [this,z7,zz (by simp [AV.cells];omega)];rfl
     have ac:∀ x,x∈bx.xs->x.okElem 2=true:=fun x hx=>by rw [<-hsz];exact O.ok x hx
     refine ⟨rb,?_,k2.mono (fun a8=>Y _ fun e=>?_) W (by rw [ab];exact zd _) (fun _ _ h=>h) k2.guard (MExt.refl M)⟩
     . rw [xee (zL ai) (by exact a5) (by exact e2) rfl (by show i'<(xNa bx.xs t0.data.toList xv).length;omega)]
       rw [e5,ag bx.xs ac];have V:((xNa bx.xs t0.data.toList xv).getD i' .top).cells.getD j' .top=.top:=ag _ fun y hy=>by
        have V:(AV.agg [.str t0.data.toList,xv]).okElem 2=true:=xyn ah;unfold xNa at hy;split at hy
        . rcases List.mem_or_eq_of_mem_set hy with hy|rfl
          . exact ac y hy
          . exact V
        . rcases zG.1 hy with hy|hy
          . exact ac y hy
          . simp only [zv] at hy;subst hy;exact V
       have e6:xNl ⟨ver,2,bx.ty,xNa bx.xs t0.data.toList xv,false,true⟩ .top=xNl bx .top:=by simp [xNl,a0]
       exact congrArg some ((congrArg (xNl ⟨ver,2,bx.ty,xNa bx.xs t0.data.toList xv,false,true⟩) V).trans e6)
     . have:=hR.inj _ (.b k) m0 m h0 af a8 Z e;cases this
 refine ⟨.skip,ChangeMaps.setBlock w m.b (.map J q),A,M,undef,?_,.inr ⟨rfl,rfl⟩,⟨rfl,rfl,rfl,by rw [ab];exact zd _,fun k hk=>Y k fun e=>by have:=O.low Z;omega⟩,MExt.refl M,fun _ _=>Iff.rfl,W,⟨fun b _ hb=>Y b fun e=>hb (.b n) m af Z e.symm,fun id m' h h0=>.inl ⟨id,m',h,h0,rfl⟩⟩,hR',.tuple #[] [] rfl (by simp)⟩
 rcases ho with ho|ho<;>simp only [execOp,ho,Sem.run_bind,r1,Result.andThen_ok,Sem.run_pure]
def getMapR (H:List Box) (n:Nat) (ver:Nat):Option Box:=match H[n]? with
 | some bx=>if bx.ver=ver/\xMX bx.ty=true/\xMW bx.ty 0=false/\xMW bx.ty 1=true/\bx.sz=2/\bx.pm=true then some bx else none
 | none=>none
theorem xnK {H:List Box} {n ver:Nat} {bx:Box} (h:getMapR H n ver=some bx):H[n]?=some bx/\bx.ver=ver/\xMX bx.ty=true/\xMW bx.ty 0=false/\xMW bx.ty 1=true/\bx.sz=2/\bx.pm=true:=by
 unfold getMapR at h;split at h
 . split at h
   . rename_i hb hc;cases h;exact ⟨hb,hc⟩
   . simp at h
 . simp at h
structure MapKs (w:World) (m:MB) (xs:List AV) (es:Array MapEntry) (clock:Nat):Prop where
 heap:w.heap[m.b]?=some (.map es clock)
 size:es.size=xs.length
 keys:∀ (k:Nat) (x:MapEntry),es[k]?=some x->∃ t:ByteArray,x.key=.string t/\(xs.getD k .top).cells.getD 0 .top=.str t.data.toList/\t.size<=maxLen
 apart:∀ (k l:Nat) (x y:MapEntry),es[k]?=some x->es[l]?=some y->x.key=y.key->k=l
theorem MapKs.miss {w:World} {m:MB} {xs:List AV} {es:Array MapEntry} {clock:Nat} (h:MapKs w m xs es clock) {t:ByteArray} (q:∀ x∈es.toList,x.key≠.string t):mapIx xs t.data.toList=none :=
 xuP fun i hi=>by
  have hi':i<es.size:=by rw [h.size];exact hi
  obtain ⟨t',h1,h2,_⟩:=h.keys i es[i] (by simp [hi'])
  rw [h2];show (t'.data.toList==t.data.toList)=false;rw [beq_eq_false_iff_ne];intro e;exact q es[i] (by simp) (by rw [h1,xs4 e])
theorem MapKs.hit {w:World} {m:MB} {xs:List AV} {es:Array MapEntry} {clock:Nat} (h:MapKs w m xs es clock) {t:ByteArray} {j:Nat} {e0:MapEntry} (hj:es.toList[j]?=some e0) (hk:e0.key=.string t):mapIx xs t.data.toList=some j/\j<xs.length:=by
 have q:es[j]?=some e0:=by simpa using hj
 have hj':j<es.size:=by
  rcases zJ j es.size with h|h
  . exact h
  . simp [Array.getElem?_eq_none h] at q
 have J:j<xs.length:=by rw [<-h.size];exact hj'
 refine ⟨xuQ J ?_ fun i hi=>?_,J⟩
 . obtain ⟨t',h1,h2,_⟩:=h.keys j e0 q;rw [h2];rw [hk] at h1;injection h1 with h1;rw [h1];show (t'.data.toList==t'.data.toList)=true;exact beq_self_eq_true _
 . have hi':i<es.size:=by omega
   obtain ⟨t',h1,h2,_⟩:=h.keys i es[i] (by simp [hi'])
   rw [h2];show (t'.data.toList==t.data.toList)=false;rw [beq_eq_false_iff_ne];intro e;have:=h.apart i j es[i] e0 (by simp [hi']) q (by rw [h1,hk,xs4 e])
   omega
theorem xuJ {t:TypeId} (h:xMX t=true):xMX (rty t)=true:=by
 unfold rty;split
 . rw [h];exact h
 . exact h
theorem BoxAt.mapKs {w:World} {A:Nat->Prop} {M:Id->Option MB} {B:Nat} {id:Id} {m:MB} {bx:Box} (h:BoxAt w A M B id m bx) (hm:xMX bx.ty=true) (h0:xMW bx.ty 0=false) (hs:bx.sz=2) (hp:bx.pm=true) (hcap:0<m.cap) :
  ∃ es clock,MapKs w m bx.xs es clock/\m.cap=maxLen/\∀ (k:Nat) (x:MapEntry),es[k]?=some x->Rel w A (MV M bx 1) x.val (xNi id.base k 1 bx.ty ((bx.xs.getD k .top).cells.getD 1 .top)):=by
 obtain ⟨c,c1,c2,c3⟩:=h.cells hcap;have J:xMX m.ty=true:=by rw [<-h.ty];exact xuJ hm
 unfold HoldsC at c1;rw [J] at c1;obtain ⟨es,clock,d1,d2,d3,d4,d5,d6⟩:=c1;have hsz:m.sz=2:=by rw [<-h.sz];exact hs
 have q:∀ (k:Nat) (x:MapEntry),es[k]?=some x->k<bx.xs.length:=fun k x hx=>by
  rw [<-d2];rcases zJ k es.size with h|h
  . exact h
  . simp [Array.getElem?_eq_none h] at hx
 refine ⟨es,clock,⟨d1,d2,fun k x hx=>?_,d6⟩,d3,fun k x hx=>?_⟩
 . obtain ⟨t,ht,O⟩:=d5 k x hx;have hk:=q k x hx;have h4:=c3 k 0 hk (by rw [hsz];omega)
   unfold MV xNi at h4;simp only [h0,hp] at h4;rw [Nat.add_zero,(d4 k x hx).1,ht] at h4;exact ⟨t,ht,xzK h4 (xBg h.ok hk (by rw [hsz];omega)) (fun id ver i j e=>by rw [e] at h4;obtain ⟨_,hh,_⟩:=Rel.own_inv h4;cases hh) (fun id ver i j e=>by rw [e] at h4;obtain ⟨_,hh,_⟩:=Rel.osl_inv h4;cases hh),O⟩
 . have h4:=c3 k 1 (q k x hx) (by rw [hsz];omega)
   rw [(d4 k x hx).2] at h4;exact h4
def absLookR (P:Program) (H:List Box) (t:TypeId) (m k:AV) (c:Bool):Option AV:=match m,k,P.underlying t with
 | .own (.b n) ver _ _,.str s,some (.map kt et)=>match P.underlying kt,xMU P et,getMapR H n ver with
  | some .string,some te,some bx=>if s.length<=xNJ then some (match mapIx bx.xs s with
   | some i=>match c with
    | true=>.tuple [xNZ n i 1 ((bx.xs.getD i .top).cells.getD 1 .top),.bool true]
    | false=>xNZ n i 1 ((bx.xs.getD i .top).cells.getD 1 .top)
   | none=>match c with
    | true=>.tuple [te.zero,.bool false]
    | false=>te.zero) else none
  | _,_,_=>none
 | _,_,_=>none
def deadR (xs:List AV) (s:List UInt8) (n:Nat):Bool:=match mapIx xs s with
 | some i=>match deadLen ((xs.getD i .top).cells.getD 1 .top) with
  | some l0=>decide (l0<n)
  | none=>false
 | none=>true
def absPutR (P:Program) (H:List Box) (t:TypeId) (m k v:AV):Option (List Box):=match m,k,v,P.underlying t with
 | .own (.b n) ver _ _,.str s,.osl (.b id) ver2 off len,some (.map kt _)=>match P.underlying kt,getMapR H n ver,xMY H (.b id) ver2 with
  | some .string,some bx,some b2=>if bx.frz=false/\b2.frz=false/\b2.pm=true/\isC b2.ty=false/\b2.ty=rowTy bx.ty/\off=0/\len=b2.xs.length/\bx.xs.length<xNJ/\s.length<=xNJ/\deadR bx.xs s len=true then
   some ((H.set id ⟨ver2+1,b2.sz,b2.ty,[],false,true⟩).set n ⟨ver,2,bx.ty,xNa bx.xs s (.list b2.sz b2.xs),false,true⟩) else none
  | _,_,_=>none
 | _,_,_,_=>none
theorem xuO:∀ {xs:List AV} {s:List UInt8} {i:Nat},mapIx xs s=some i->i<xs.length
 | [],s,i,h=>by simp [mapIx] at h
 | e::es,s,i,h=>by
  simp only [mapIx] at h;split at h
  . cases h;simp
  . cases hm:mapIx es s with
    | none=>rw [hm] at h;simp at h
    | some j =>
     rw [hm] at h;simp only [Option.map_some,z6] at h;have:=xuO hm;subst h;simp;omega
def putIx (xs:List AV) (s:List UInt8):Nat:=match mapIx xs s with
 | some i=>i
 | none=>xs.length
theorem xuR {xs:List AV} {s:List UInt8} {v:AV} (k:Nat):(xNa xs s v).getD k .top=if k=putIx xs s then .agg [.str s,v] else xs.getD k .top:=by
 unfold xNa putIx;cases h:mapIx xs s with
 | some i =>
  have:=xuO h;by_cases hk:k=i
  . subst hk;simp [z7,this]
  . simp [z7,List.getElem?_set,hk,show ¬ i=k from fun e=>hk e.symm]
 | none =>
  by_cases hk:k=xs.length
  . subst hk;simp [z7]
  . simp only [hk,if_false];rcases zJ k xs.length with g|g
    . simp [z7,zP,g]
    . rw [z7,z7,zz (by simp;omega),zz g]
theorem xI2 {xs:List AV} {s:List UInt8} {v:AV}:putIx xs s<(xNa xs s v).length:=by
 unfold xNa putIx;cases h:mapIx xs s with
 | some i=>have:=xuO h;simpa using this
 | none=>simp
section
variable {P : Program} {w : World} {A : Nat -> Prop} {M : Id -> Option MB} {B : Nat} {H : List Box}
theorem xDc (hR:HR w A M B H) {v:Value} {n ver i j:Nat} {bx:Box} (h:Rel w A M v (.own (.b n) ver i j)) (hb:getMapR H n ver=some bx) :
  ∃ m,M (.b n)=some m/\BoxAt w A M B (.b n) m bx/\v=.map (some m.b)/\0<m.cap:=by
 obtain ⟨O,Q,J,_⟩:=xnK hb;obtain ⟨m,hm,hv,h1,he⟩:=Rel.own_inv h;obtain ⟨bx',h2,h3⟩:=hR.box _ m hm;rw [xbz,O] at h2;cases h2;refine ⟨m,hm,h3,?_⟩;have q:xMX m.ty=true:=by rw [<-h3.ty];exact xuJ J
 have h0:=he (by rw [<-Q,h3.ver])
 unfold ptrOf at h0;rw [q] at h0;cases hc:m.cap with
 | zero =>
  rw [hc] at h0;simp only at h0;rw [h0] at h1;cases h1
 | succ k =>
  rw [hc] at h0;exact ⟨h0,Nat.succ_pos k⟩
theorem xA8 (hR:HR w A M B H) {ρc:Operand->Value} {t:TypeId} {om ok:Operand} {c:Bool} {xm xk r:AV} (hm:Rel w A M (ρc om) xm) (hk:Rel w A M (ρc ok) xk) (h:absLookR P H t xm xk c=some r) :
  ∃ v,(Instr.lookup t (ρc om) (ρc ok) c).run P w=.ok v w/\Rel w A M v r:=by
 unfold absLookR at h;split at h
 case h_2=>simp at h
 rename_i n ver i j s kt et ag;split at h
 case h_2=>simp at h
 rename_i te bx J ac Y;split at h
 case isFalse=>simp at h
 rename_i al;simp only [z6] at h;obtain ⟨m,ap,af,am,ah⟩:=xDc hR hm Y;obtain ⟨ao,aq,ad,ai,ae,ak,aa⟩:=xnK Y;obtain ⟨es,clock,q,_,U⟩:=af.mapKs ad ai ak aa ah;obtain ⟨t0,aj,ab⟩:=hk.str_inv;subst ab;have O:∀ x∈es.toList,∃ l,keyOf P kt x.key=some l:=fun x hx=>by
  obtain ⟨k,W,rfl⟩:=zp.1 hx;simp only [Array.length_toList] at W;obtain ⟨t',h1,_,h3⟩:=q.keys k es[k] (by simp [W])
  exact ⟨.string t'.data.toList,by simp only [Array.getElem_toList];rw [h1];exact xgI J h3⟩
 obtain ⟨z,hz,Z⟩:=xyV ac w;have V:Rel w A M z te.zero:=by rw [Z];exact xcL w A M z
 rw [am,aj,<-h];rcases xC3 c (Maps.string_keyed J) ag hz q.heap O (kl:=.string t0.data.toList) (xgI J (xk0 al)) with ⟨h1,h2⟩|⟨j0,e0,h1,h2,h3⟩
 . have Q:=q.miss h2;refine ⟨_,h1,?_⟩;rw [Q];cases c
   . simpa using V
   . simp only [if_true];exact .tuple #[z,.bool false] _ rfl fun i hi=>by
      rcases i with _|_|i
      . exact V
      . exact .bool false
      . simp at hi;omega
 . obtain ⟨Q,an⟩:=q.hit h1 h2;have hv:=(U j0 e0 (by simpa using h1)).unmv
   unfold xNi at hv;rw [ae] at hv;change Rel w A M e0.val (xNZ n j0 1 ((bx.xs.getD j0 .top).cells.getD 1 .top)) at hv;refine ⟨_,h3,?_⟩;rw [Q];cases c
   . simpa using hv
   . simp only [if_true];exact .tuple #[e0.val,.bool true] _ rfl fun i hi=>by
      rcases i with _|_|i
      . exact hv
      . exact .bool true
      . simp at hi;omega
theorem xD8 (hR:HR w A M B H) {o:Oper} {ρc:Operand->Value} {t:TypeId} {om ok:Operand} {c:Bool} {xm xk r:AV} (ho:o.op=.lookup t om ok c) (hm:Rel w A M (ρc om) xm) (hk:Rel w A M (ρc ok) xk) (h:absLookR P H t xm xk c=some r) :
  Writes P o ρc w A M B r H:=by
 obtain ⟨v,h1,h2⟩:=xA8 hR hm hk h;exact ⟨.value v,w,A,M,v,by simp only [execOp,ho,Sem.run_bind,h1,Result.andThen_ok,Sem.run_pure],.inl rfl,Below.refl _ _,MExt.refl M,fun _ _=>Iff.rfl,fun _ _ _=>rfl,⟨fun _ _ _=>rfl,fun id m' h h0=>.inl ⟨id,m',h,h0,rfl⟩⟩,hR,h2⟩
theorem MapKs.put {m:MB} {xs:List AV} {es:Array MapEntry} {clock:Nat} (Q:MapKs w m xs es clock) {t kt et:TypeId} (ac:P.underlying t=some (.map kt et)) (V:P.underlying kt=some .string) {t0:ByteArray} (Y:t0.data.toList.length<=xNJ) (val:Value) (v:AV) :
  ∃ O clock',(Instr.mapUpdate t (.map (some m.b)) (.string t0) val).run P w=.ok () (ChangeMaps.setBlock w m.b (.map O clock'))/\O.size=(xNa xs t0.data.toList v).length /\
   (∀ (k:Nat) (x:MapEntry),O[k]?=some x->∃ t:ByteArray,x.key=.string t/\((xNa xs t0.data.toList v).getD k .top).cells.getD 0 .top=.str t.data.toList/\t.size<=maxLen) /\
   (∀ (k l:Nat) (x y:MapEntry),O[k]?=some x->O[l]?=some y->x.key=y.key->k=l) /\
   (∀ (k:Nat) (x:MapEntry),O[k]?=some x->(k≠putIx xs t0.data.toList/\es[k]?=some x)\/(k=putIx xs t0.data.toList/\x.val=val)):=by
 have hsz':xs.length=es.size:=Q.size.symm;have W:∀ x∈es.toList,∃ l,keyOf P kt x.key=some l:=fun x hx=>by
  obtain ⟨k,aa,rfl⟩:=zp.1 hx;simp only [Array.length_toList] at aa;obtain ⟨t',h1,_,h3⟩:=Q.keys k es[k] (by simp [aa])
  exact ⟨.string t'.data.toList,by simp only [Array.getElem_toList];rw [h1];exact xgI V h3⟩
 rcases xE2 (val:=val) (Maps.string_keyed V) ac Q.heap W (kl:=.string t0.data.toList) (xgI V (xk0 Y)) with ⟨h1,h2⟩|⟨j0,e0,h1,h2,O,h3,h4⟩
 . have U:=Q.miss h2;have J:putIx xs t0.data.toList=xs.length:=by unfold putIx;rw [U]
   have hp:(xNa xs t0.data.toList v).length=xs.length+1:=by unfold xNa;rw [U];simp
   have q:∀ (k:Nat) (x:MapEntry),(es.push ⟨.string t0,val,clock⟩)[k]?=some x->(k<es.size/\es[k]?=some x)\/(k=es.size/\x=⟨.string t0,val,clock⟩):=fun k x hx=>by
    rw [Array.getElem?_push] at hx;split at hx
    . rename_i e;simp only [z6] at hx;exact .inr ⟨e,hx.symm⟩
    . rcases zJ k es.size with h|h
      . exact .inl ⟨h,hx⟩
      . simp [Array.getElem?_eq_none h] at hx
   refine ⟨_,_,h1,by rw [hp];simp [hsz'],fun k x hx=>?_,fun k l x y hx hy e=>?_,fun k x hx=>?_⟩
   . rw [xuR,J];rcases q k x hx with ⟨g1,g2⟩|⟨rfl,rfl⟩
     . obtain ⟨t',a1,a2,a3⟩:=Q.keys k x g2;exact ⟨t',a1,by rw [if_neg (by omega)];exact a2,a3⟩
     . exact ⟨t0,rfl,by rw [if_pos hsz'.symm];rfl,xk0 Y⟩
   . rcases q k x hx with ⟨g1,g2⟩|⟨rfl,rfl⟩<;>rcases q l y hy with ⟨g3,g4⟩|⟨rfl,rfl⟩
     . exact Q.apart k l x y g2 g4 e
     . exact absurd e (h2 x (List.mem_of_getElem? (by simpa using g2)))
     . exact absurd e.symm (h2 y (List.mem_of_getElem? (by simpa using g4)))
     . rfl
   . rcases q k x hx with ⟨g1,g2⟩|⟨rfl,rfl⟩
     . exact .inl ⟨by rw [J];omega,g2⟩
     . exact .inr ⟨by rw [J];exact hsz'.symm,rfl⟩
 . obtain ⟨U,ad⟩:=Q.hit h1 h2;have J:putIx xs t0.data.toList=j0:=by unfold putIx;rw [U]
   have hp:(xNa xs t0.data.toList v).length=xs.length:=by unfold xNa;rw [U];simp
   have q:∀ (k:Nat) (x:MapEntry),O[k]?=some x->(k≠j0/\es[k]?=some x)\/(k=j0/\x={ e0 with key:=.string t0,val:=val }):=fun k x hx=>by
    rw [<-Array.getElem?_toList,h3,List.getElem?_set] at hx;split at hx
    . rename_i e;subst e;split at hx
      . simp only [z6] at hx;exact .inr ⟨rfl,hx.symm⟩
      . simp at hx
    . rename_i e;exact .inl ⟨fun e'=>e e'.symm,by simpa using hx⟩
   refine ⟨_,_,h4,by rw [hp,<-Array.length_toList,h3];simp [hsz'],fun k x hx=>?_,fun k l x y hx hy e=>?_,fun k x hx=>?_⟩
   . rw [xuR,J];rcases q k x hx with ⟨g1,g2⟩|⟨rfl,rfl⟩
     . obtain ⟨t',a1,a2,a3⟩:=Q.keys k x g2;exact ⟨t',a1,by rw [if_neg g1];exact a2,a3⟩
     . exact ⟨t0,rfl,by rw [if_pos rfl];rfl,xk0 Y⟩
   . have ab:es[j0]?=some e0:=by simpa using h1
     have Z:∀ (k:Nat) (x:MapEntry),O[k]?=some x->∃ y:MapEntry,es[k]?=some y/\y.key=x.key:=fun k x hx=>by
      rcases q k x hx with ⟨g1,g2⟩|⟨rfl,rfl⟩
      . exact ⟨x,g2,rfl⟩
      . exact ⟨e0,ab,h2⟩
     obtain ⟨x',a1,a2⟩:=Z k x hx;obtain ⟨y',b1,b2⟩:=Z l y hy;exact Q.apart k l x' y' a1 b1 (by rw [a2,b2,e])
   . rcases q k x hx with ⟨g1,g2⟩|⟨rfl,rfl⟩
     . exact .inl ⟨by rw [J];exact g1,g2⟩
     . exact .inr ⟨J.symm,rfl⟩
end
section
variable {P : Program} {w : World} {A : Nat -> Prop} {M : Id -> Option MB} {B : Nat} {H : List Box}
theorem xF8 (hR:HR w A M B H) {o:Oper} {ρc:Operand->Value} {t:TypeId} {om ok ov:Operand} {xm xk xv:AV} {H':List Box} (ho:o.op=.mapUpdate t om ok ov\/o.op=.insert t om ok ov) (hm:Rel w A M (ρc om) xm) (hk:Rel w A M (ρc ok) xk) (hv:Rel w A M (ρc ov) xv) (h:absPutR P H t xm xk xv=some H') :
  Writes P o ρc w A M B (.tuple []) H':=by
 unfold absPutR at h;split at h
 case h_2=>simp at h
 rename_i n ver i j s id ab off len kt et cf;split at h
 case h_2=>simp at h
 rename_i bx b2 bv bh az;split at h
 case isFalse=>simp at h
 rename_i cd;obtain ⟨bm,be,bg,ah,bq,rfl,rfl,bb,cj,U⟩:=cd;cases h;obtain ⟨m,a8,Z,b5,an⟩:=xDc hR hm bh;obtain ⟨ar,bz,bi,bt,am,bn,ch⟩:=xnK bh;obtain ⟨es,clock,ca,hcap,a6⟩:=Z.mapKs bi bt bn ch an;obtain ⟨t0,b9,cb⟩:=hk.str_inv;subst cb;obtain ⟨m2,a2,aj,V,ce,cr,cq⟩:=xjg hR hv az;obtain ⟨ae,ay⟩:=xay az;rw [xbz] at ae;have ao:isC bx.ty=true:=xe9 am;have hne:id≠n:=fun e=>by
  subst e;rw [ar] at ae;cases ae;rw [ah] at ao;cases ao
 have hsz:m.sz=2:=by rw [<-Z.sz];exact bn
 have hA:A m.b:=(Z.guard an).1 bm;have ck:xMX m.ty=true:=by rw [<-Z.ty];exact xuJ bi
 obtain ⟨J,q,r1,r2,r3,r5,r4⟩:=ca.put cf bv cj (ρc ov) (.list b2.sz b2.xs);generalize Y:putIx bx.xs t0.data.toList=ix at r4;have bj:(ChangeMaps.setBlock w m.b (.map J q)).heap[m.b]?=some (.map J q):=by
  simp [ChangeMaps.setBlock,Z.lt an]
 have ak:∀ b,b≠m.b->(ChangeMaps.setBlock w m.b (.map J q)).heap[b]?=w.heap[b]?:=fun b hb=>by
  simp [ChangeMaps.setBlock,Array.getElem?_setIfInBounds,Ne.symm hb]
 have ag:(ChangeMaps.setBlock w m.b (.map J q)).heap.size=w.heap.size:=by simp [ChangeMaps.setBlock]
 have W:∀ b,b<w.heap.size->¬ A b->(ChangeMaps.setBlock w m.b (.map J q)).heap[b]?=w.heap[b]?:=fun b _ hb=>ak b fun e=>hb (e▸hA)
 have bk:n<H.length:=xcG ar;have bw:id<H.length:=xcG ae;let M':Id->Option MB:=fun x=>if x=.b id then some ⟨m2.b,m2.ver+1,m2.sz,0,m2.ty⟩ else if x=.r n ix 1 then some ⟨m2.b,2*b2.xs.length,m2.sz,m2.cap,m2.ty⟩ else M x
 have aq:M' (.b id)=some ⟨m2.b,m2.ver+1,m2.sz,0,m2.ty⟩:=by simp [M']
 have ai:M' (.r n ix 1)=some ⟨m2.b,2*b2.xs.length,m2.sz,m2.cap,m2.ty⟩:=by simp [M']
 have af:∀ x:Id,x≠.b id->x≠.r n ix 1->M' x=M x:=fun x h1 h2=>by simp [M',h1,h2]
 have bf:∀ m0,M (.r n ix 1)=some m0->m0.ver<2*b2.xs.length:=fun m0 h0=>by
  obtain ⟨rb,k1,k2⟩:=hR.box _ m0 h0;obtain ⟨k4,k5,k6,k7⟩:=xhR ar ao k1;have k8:=k2.ver;rw [k7] at k8;unfold putIx at Y;unfold deadR at U;cases hi:mapIx bx.xs t0.data.toList with
  | none =>
   rw [hi] at Y;simp only at Y;omega
  | some i =>
   rw [hi] at Y U;simp only at Y U;subst Y;unfold deadLen at U;split at U
   . rename_i l0 a5;split at a5
     . rename_i kk l hl;simp only [z6] at a5;simp only [zl] at U;rw [hl] at k8;simp only [xNl,rowLen] at k8;omega
     . simp at a5
   . simp at U
 have ac:MExt M M':=fun x m0 h0=>by
  by_cases e1:x=.b id
  . subst e1;rw [aj] at h0;cases h0;exact ⟨_,aq,.inr (Nat.lt_succ_self _)⟩
  . by_cases e2:x=.r n ix 1
    . subst e2;exact ⟨_,ai,.inr (bf m0 h0)⟩
    . exact ⟨m0,by rw [af x e1 e2];exact h0,.inl rfl⟩
 have ap:∀ x m',M' x=some m'->0<m'.cap->∃ y m0,M y=some m0/\m0.b=m'.b/\m0.cap=m'.cap/\(x=.r n ix 1/\y=.b id\/x=y/\y≠.b id/\y≠.r n ix 1):=fun x m' h h0=>by
  by_cases e1:x=.b id
  . subst e1;rw [aq] at h;cases h;exact absurd h0 (by simp)
  . by_cases e2:x=.r n ix 1
    . subst e2;rw [ai] at h;cases h;exact ⟨_,m2,aj,rfl,rfl,.inl ⟨rfl,rfl⟩⟩
    . rw [af x e1 e2] at h;exact ⟨x,m',h,rfl,rfl,.inr ⟨rfl,e1,e2⟩⟩
 have bo:∀ (x:Id) m1 x' m2,M' x=some m1->M' x'=some m2->0<m1.cap->0<m2.cap->m1.b=m2.b->x=x':=fun x m1 x' m2 h1 h2 c1 c2 he=>by
  obtain ⟨y,n1,a1,a2,a3,a4⟩:=ap x m1 h1 c1;obtain ⟨y',n2,b1,b2,b3,b4⟩:=ap x' m2 h2 c2;have:=hR.inj y y' n1 n2 a1 b1 (by omega) (by omega) (by rw [a2,b2,he])
  subst this;rcases a4 with ⟨rfl,e1⟩|⟨rfl,e1,_⟩<;>rcases b4 with ⟨rfl,e2⟩|⟨rfl,e2,_⟩
  . rfl
  . exact absurd e1 e2
  . exact absurd e2 e1
  . rfl
 have ad:∀ (x:Id) m0,x≠.b n->M x=some m0->0<m0.cap->(ChangeMaps.setBlock w m.b (.map J q)).heap[m0.b]?=w.heap[m0.b]?:=fun x m0 hx h0 c0=>ak m0.b fun e=>hx (hR.inj x (.b n) m0 m h0 a8 c0 an e)
 generalize aa:xNa bx.xs t0.data.toList (.list b2.sz b2.xs)=O at r2 r3;have au:∀ k,O.getD k .top=if k=ix then .agg [.str t0.data.toList,.list b2.sz b2.xs] else bx.xs.getD k .top:=fun k=>by rw [<-aa,<-Y];exact xuR k
 have co:O.length<=bx.xs.length+1:=by rw [<-aa];exact xAk.2
 have b8:bx.xs.length<=O.length:=by rw [<-aa];exact xAk.1
 have a7:ix<O.length:=by rw [<-aa,<-Y];exact xI2
 have cg:ix<=bx.xs.length:=by
  rw [<-Y];unfold putIx;cases hi:mapIx bx.xs t0.data.toList with
  | none=>exact zd _
  | some i=>exact Nat.le_of_lt (xuO hi)
 have ax:∀ k,k<O.length->k≠ix->k<bx.xs.length:=fun k hk hne=>by
  unfold xNa at aa;unfold putIx at Y;cases hi:mapIx bx.xs t0.data.toList with
  | none=>rw [hi] at Y;simp only at Y;omega
  | some i=>rw [hi] at aa;rw [<-aa] at hk;simpa using hk
 have a0:((H.set id ⟨ab+1,b2.sz,b2.ty,[],false,true⟩).set n ⟨ver,2,bx.ty,O,false,true⟩)[n]?=some ⟨ver,2,bx.ty,O,false,true⟩:=zL (by simpa using bk)
 have bp:((H.set id ⟨ab+1,b2.sz,b2.ty,[],false,true⟩).set n ⟨ver,2,bx.ty,O,false,true⟩)[id]?=some ⟨ab+1,b2.sz,b2.ty,[],false,true⟩:=by
  rw [zX (Ne.symm hne),zL bw]
 have ba:∀ k,xMW bx.ty k=true->k=1:=fun k hk=>by rw [xr0 hk,<-xr0 am]
 have hR':HR (ChangeMaps.setBlock w m.b (.map J q)) A M' B ((H.set id ⟨ab+1,b2.sz,b2.ty,[],false,true⟩).set n ⟨ver,2,bx.ty,O,false,true⟩):=by
  refine hR.rebuild (fun k=>k=n\/k=id) (fun k hk ct=>?_) (fun x Q=>af x (fun e=>Q (.inr (by rw [e];rfl))) fun e=>Q (.inl (by rw [e];rfl))) (fun x m0 Q h0 c0=>⟨ad x m0 (fun e=>Q (.inl (by rw [e];rfl))) h0 c0,fun h=>h⟩) W (by rw [ag];exact zd _) (fun _ _ h=>h) ac (fun x m' hS Q=>?_) (fun x m1 x' m2 _ h1 h2 c1 c2 he=>bo x m1 x' m2 h1 h2 c1 c2 he) (fun b hb=>by rw [ag];exact hR.lt b hb)
  . rw [zX (fun e=>hk (.inl e.symm)),zX (fun e=>hk (.inr e.symm))]
  . by_cases e1:x=.b id
    . subst e1;rw [aq] at Q;cases Q;have hc:∀ {p:Prop},0<(0:Nat)->p:=fun h=>absurd h (by simp)
      exact ⟨(⟨ab+1,b2.sz,b2.ty,[],false,true⟩:Box),bp,by simp only;rw [<-V.ver,ay],V.sz,V.ty,zQ _,zQ _,fun x hx=>by simp at hx,hc,hc,hc,hc⟩
    . by_cases e2:x=.r n ix 1
      . subst e2;rw [ai] at Q;cases Q;have b6:getB ((H.set id ⟨ab+1,b2.sz,b2.ty,[],false,true⟩).set n ⟨ver,2,bx.ty,O,false,true⟩) (.r n ix 1)=some ⟨2*b2.xs.length,b2.sz,rowTy bx.ty,b2.xs,false,true⟩:=by
         rw [xee a0 ao am rfl a7];show some (xNl _ ((O.getD ix .top).cells.getD 1 .top))=_;rw [au,if_pos rfl];rfl
        have k4:=V.mono (w':=ChangeMaps.setBlock w m.b (.map J q)) (A':=A) (M':=M') (fun h0=>ad (.b id) m2 (fun e=>hne (by injection e)) aj h0) W (by rw [ag];exact zd _) (fun _ _ h=>h) V.guard ac
        refine ⟨_,b6,rfl,k4.sz,by rw [<-bq];exact k4.ty,k4.capm,k4.fits,k4.ok,k4.low,k4.lt,fun h0=>?_,fun h0=>?_⟩
        . obtain ⟨cc,c1,c2,c3⟩:=k4.cells h0;refine ⟨cc,c1,c2,fun i' j' bc hk=>?_⟩
          have h4:=c3 i' j' bc hk;rw [xam ah,xaO ah,bg] at h4;rw [xam (xbw _),xaO (bx:=⟨2*b2.xs.length,b2.sz,rowTy bx.ty,b2.xs,false,true⟩) (xbw _)];exact h4
        . have:=k4.guard h0;rw [be] at this;exact this
      . by_cases al:x.base=id
        . rw [af x e1 e2] at Q;obtain ⟨bx',k1,k2⟩:=hR.box x m' Q;cases x with
          | b k=>exact absurd (by rw [<-al];rfl) e1
          | r k i' j' =>
           simp only [Id.base] at al;subst al;rw [xdo ae ah] at k1;cases k1;exact ⟨tombB,xdo bp ah,k2.mono (fun h0=>ad _ m' (fun e=>by cases e) Q h0) W (by rw [ag];exact zd _) (fun _ _ h=>h) k2.guard ac⟩
        have aw:x.base=n:=by
         rcases hS with h|h
         . exact h
         . exact absurd h al
        rw [af x e1 e2] at Q;obtain ⟨bx',k1,k2⟩:=hR.box x m' Q;cases x with
        | r n' i' j' =>
         simp only [Id.base] at aw;subst aw;have k3:getB ((H.set id ⟨ab+1,b2.sz,b2.ty,[],false,true⟩).set n' ⟨ver,2,bx.ty,O,false,true⟩) (.r n' i' j')=some bx':=by
          obtain ⟨ci,e3,e4,e5⟩:=xhR ar ao k1;have b0:=ba j' ci;subst b0;have cm:i'≠ix:=fun e=>e2 (by rw [e])
          rw [xee a0 ao am rfl (by show i'<O.length;omega),e5]
          show some (xNl _ ((O.getD i' .top).cells.getD 1 .top))=_;rw [au,if_neg cm];have:∀ y:AV,xNl ⟨ver,2,bx.ty,O,false,true⟩ y=xNl bx y:=fun y=>by
           cases y<;>simp [xNl,bm]
          rw [this]
         exact ⟨bx',k3,k2.mono (fun h0=>ad _ m' (fun e=>by cases e) Q h0) W (by rw [ag];exact zd _) (fun _ _ h=>h) k2.guard ac⟩
        | b n' =>
         simp only [Id.base] at aw;subst aw;rw [a8] at Q;cases Q;have hroom':O.length<=maxLen:=by
          unfold xNJ at bb;unfold maxLen;omega
         refine ⟨⟨ver,2,bx.ty,O,false,true⟩,a0,bz.symm.trans Z.ver,hsz.symm,Z.ty,Z.capm,by rw [hcap];exact hroom',fun y hy=>?_,Z.low,fun h0=>by rw [ag];exact Z.lt h0,fun h0=>?_,fun _=>⟨fun _=>hA,fun _=>rfl⟩⟩
         . rw [hsz];obtain ⟨k,hk,rfl⟩:=xkC hy;rw [au];by_cases a9:k=ix
           . rw [if_pos a9];exact xyn rfl
           . rw [if_neg a9,<-hsz];exact Z.ok _ (xau (ax k hk a9))
         . let c':Array Value:=Array.ofFn (n:=maxLen*2) fun k=>match J[k.val / 2]? with
            | some x=>if k.val % 2=0 then x.key else x.val
            | none=>undef
           have cp:J.size<=maxLen:=by rw [r2];exact hroom'
           have cl:∀ (k:Nat) (x:MapEntry),J[k]?=some x->k<J.size:=fun k x hx=>by
            rcases zJ k J.size with h|h
            . exact h
            . simp [Array.getElem?_eq_none h] at hx
           have hc':∀ (k:Nat) (x:MapEntry),J[k]?=some x->c'.getD (k*m.sz) undef=x.key/\c'.getD (k*m.sz+1) undef=x.val:=fun k x hx=>by
            have hk:=cl k x hx;rw [hsz];have e1:k*2<maxLen*2:=by omega
            have e2:k*2+1<maxLen*2:=by omega
            constructor
            . rw [zu,Array.getElem?_ofFn,dif_pos e1];simp only [zh,Nat.mul_div_cancel _ (by omega:0<2),hx,Nat.mul_mod_left,if_true]
            . rw [zu,Array.getElem?_ofFn,dif_pos e2];have d1:(k*2+1) / 2=k:=by omega
              have d2:¬ (k*2+1) % 2=0:=by omega
              simp only [zh,d1,hx,d2,if_false]
           refine ⟨c',?_,by rw [hcap,hsz];exact Array.size_ofFn,fun i' j' bc bu=>?_⟩
           . unfold HoldsC;rw [ck];exact ⟨J,q,bj,r2,hcap,hc',fun k x hx=>by obtain ⟨t',a1,_,a3⟩:=r3 k x hx;exact ⟨t',a1,a3⟩,r5⟩
           . have b7:i'<J.size:=by rw [r2];exact bc
             obtain ⟨x,hx⟩:∃ x,J[i']?=some x:=⟨J[i'],by simp [b7]⟩
             rw [hsz] at bu;rcases j' with _|_|j'
             . rw [Nat.add_zero,(hc' i' x hx).1];obtain ⟨t',a1,a2,_⟩:=r3 i' x hx;unfold MV xNi;simp only [bt];rw [a1,a2];exact .str t'
             . rw [(hc' i' x hx).2];unfold MV xNi;simp only [am];rw [au];rcases r4 i' x hx with ⟨g1,g2⟩|⟨g1,g2⟩
               . rw [if_neg g1];have h4:=a6 i' x g2;unfold MV xNi at h4;simp only [am] at h4;exact h4.mono W (by rw [ag];exact zd _) (fun _ _ h=>h) ac
               . rw [if_pos g1,g2];subst g1;obtain ⟨m3,q1,q2,q3,q4⟩:=Rel.osl_inv hv;rw [aj] at q1;cases q1;obtain ⟨q5,a,q6,q7⟩:=q4 (by rw [<-ay,V.ver])
                 exact .osl _ (.r n' i' 1) _ _ _ _ ai (zd _) q3 fun _=>⟨q5,a,q6,q7⟩
             . omega
 refine ⟨.skip,ChangeMaps.setBlock w m.b (.map J q),A,M',undef,?_,.inr ⟨rfl,rfl⟩,⟨rfl,rfl,rfl,by rw [ag];exact zd _,fun k hk=>ak k fun e=>by have:=Z.low an;omega⟩,ac,fun _ _=>Iff.rfl,W,⟨fun b _ hb=>ak b fun e=>hb (.b n) m a8 an e.symm,fun x m' h h0=>?_⟩,hR',.tuple #[] [] rfl (by simp)⟩
 . rcases ho with ho|ho<;>simp only [execOp,ho,Sem.run_bind,b5,b9,r1,Result.andThen_ok,Sem.run_pure]
 . obtain ⟨y,m0,a1,a2,a3,_⟩:=ap x m' h h0;exact .inl ⟨y,m0,a1,by omega,a2.symm⟩
end
theorem xD9 (hR:HR w A M B H) (hB:B<=w.heap.size) {o:Oper} {ρc:Operand->Value} {t:TypeId} {r:AV} {H':List Box} (ho:o.op=.makeMap t none) (h:absMakeM P H t=some (r,H')) :
  Writes P o ρc w A M B r H':=by
 unfold absMakeM at h;split at h
 case h_2=>simp at h
 rename_i kt et ag;split at h
 case h_2=>simp at h
 rename_i ty af ae;split at h
 case isFalse=>simp at h
 rename_i Y;obtain ⟨Q,ac⟩:=Y;simp only [z6,zb] at h;obtain ⟨rfl,rfl⟩:=h;have hn:Free M H.length:=hR.free_of_length (zd _);have q:=xjr w (.map #[] 0);have W:rty ty=ty:=by unfold rty;rw [ac,Q]
 let m:MB:=⟨w.heap.size,0,2,maxLen,ty⟩;have O:MExt M (MPut M H.length m):=xsc hn m;have hA:∀ b,b<w.heap.size->(APut A w.heap.size false b->A b):=fun b hb h=>by
  rcases h with h|⟨h,_⟩
  . exact h
  . omega
 have J:MPut M H.length m (.b H.length)=some m:=by simp [MPut]
 have ad:(H++[⟨0,2,ty,[],false,true⟩])[H.length]?=some ⟨0,2,ty,[],false,true⟩:=by simp
 have aa:∀ x:Id,x≠.b H.length->MPut M H.length m x=M x:=fun x hx=>by simp [MPut,hx]
 have hR':HR (w.alloc (.map #[] 0)) (APut A w.heap.size false) (MPut M H.length m) B (H++[⟨0,2,ty,[],false,true⟩]):=by
  refine hR.rebuild (fun k=>k=H.length) (fun k hk ab=>zO ab) (fun x hx=>aa x fun e=>hx (by rw [e];rfl)) (fun x m0 hx h0 c0=>?_) (fun b hb _=>q.block b hb) q.size hA O (fun x m0 hx h0=>?_) (fun x m1 x' m2 hx h1 h2 c1 c2 he=>?_) (fun b hb=>?_)
  . obtain ⟨bx,_,k2⟩:=hR.box x m0 h0;exact ⟨q.block _ (k2.lt c0),.inl⟩
  . cases x with
    | b k =>
     have hx:k=H.length:=hx;subst hx;rw [J] at h0;cases h0;refine ⟨_,ad,rfl,rfl,W,zd _,zQ _,fun y hy=>by simp at hy,fun _=>hB,fun _=>by simp [m],fun _=>⟨Array.replicate (maxLen*2) undef,?_,by simp [m],fun i j hi _=>by simp at hi⟩,fun _=>⟨fun _=>.inr ⟨rfl,rfl⟩,fun _=>rfl⟩⟩
     unfold HoldsC;show match xMX ty with|false=>_|true=>_
     rw [Q];exact ⟨#[],0,heap_alloc_new w _,rfl,rfl,fun k x hx=>by simp at hx,fun k x hx=>by simp at hx,fun k l x y hx=>by simp at hx⟩
    | r k i j =>
     have hx:k=H.length:=hx;subst hx;have:MPut M H.length m (.r H.length i j)=M (.r H.length i j):=by simp [MPut]
     rw [this,hn.2] at h0;cases h0
  . have Z:x=.b H.length:=by
     cases x with
     | b k=>have hx:k=H.length:=hx;rw [hx]
     | r k i j =>
      have hx:k=H.length:=hx;subst hx;have:MPut M H.length m (.r H.length i j)=M (.r H.length i j):=by simp [MPut]
      rw [this,hn.2] at h1;cases h1
    subst Z;rw [J] at h1;cases h1;by_cases V:x'=.b H.length
    . exact V.symm
    . have h2':M x'=some m2:=by simpa [MPut,V] using h2
      obtain ⟨bx',_,h3⟩:=hR.box x' m2 h2';have:=h3.lt c2;rw [<-he] at this;simp [m] at this
  . rcases hb with hb|⟨rfl,_⟩
    . have:=hR.lt b hb;simp;omega
    . simp
 refine ⟨.value (.map (some w.heap.size)),w.alloc (.map #[] 0),APut A w.heap.size false,MPut M H.length m,.map (some w.heap.size),?_,.inl rfl,⟨rfl,rfl,rfl,q.size,fun k hk=>q.block k (Nat.lt_of_lt_of_le hk hB)⟩,O,fun b hb=>⟨hA b hb,.inl⟩,fun b hb _=>q.block b hb,Touch.of_new q (fun id m' h=>?_),hR',.own _ (.b H.length) 0 0 0 m J (zd _) rfl fun _=>?_⟩
 . simp [execOp,ho,Instr.makeMap]
 . by_cases U:id=.b H.length
   . subst U;rw [J] at h;cases h;exact .inr (zd _)
   . exact .inl (by simpa [MPut,U] using h)
 . unfold ptrOf;show _=match xMX ty with|true=>_|false=>_
   rw [Q];rfl
end
end
section
variable {P : Program} {w : World} {A : Nat -> Prop} {M : Id -> Option MB} {B : Nat} {H : List Box}
def iop (P:Program) (ρ:Operand->AV) (H:List Box) (op:Op):Option (AV×List Box) :=
 match op with
 | .store t a v=>match mkd H (ρ a) with
  | true=>match absAdopt P H t (ρ a) (ρ v) with
   | some H'=>some (.tuple [],H')
   | none=>none
  | false=>match absStore P H t (ρ a) (ρ v) with
   | some H'=>some (.tuple [],H')
   | none=>none
 | .call c=>match c.callee with
  | .builtin b=>match b,c.argTypes.toList,c.args.toList with
   | .append,[t,t'],[s,x]=>match isRowRef (ρ s) with
    | true=>absTake P H t t' (ρ s) (ρ x)
    | false=>match mkd H (ρ s) with
     | true=>absAppC P H t t' (ρ s) (ρ x)
     | false=>xNY P H t t' (ρ s) (ρ x)
   | .clear,[t],[x]=>match absClear P H t (ρ x) with
    | some H'=>some (.tuple [],H')
    | none=>none
   | _,_,_=>none
  | _=>none
 | .lookup t m k c=>match absLookM P H t (ρ m) (ρ k) c with
  | some r=>some (r,H)
  | none=>match absLookR P H t (ρ m) (ρ k) c with
   | some r=>some (r,H)
   | none=>none
 | .mapUpdate t m k v=>match absPutM P H t (ρ m) (ρ k) (ρ v) with
  | some H'=>some (.tuple [],H')
  | none=>match absPutR P H t (ρ m) (ρ k) (ρ v) with
   | some H'=>some (.tuple [],H')
   | none=>none
 | .makeMap t r=>match r with
  | none=>absMakeM P H t
  | some _=>none
 | _=>none
theorem xHA (hR:HR w A M B H) (hB:B<=w.heap.size) {ρ:Operand->AV} {ρc:Operand->Value} {o:Oper} {x:AV} {H':List Box} (hρ:∀ a,Rel w A M (ρc a) (ρ a)) (h:iop P ρ H o.op=some (x,H')):Writes P o ρc w A M B x H':=by
 unfold iop at h;split at h
 . rename_i t a v ho;split at h
   . split at h
     case h_2=>simp at h
     rename_i H2 q;simp only [z6,zb] at h;obtain ⟨rfl,rfl⟩:=h;exact xDS hR ho (hρ a) (hρ v) q
   . split at h
     case h_2=>simp at h
     rename_i H2 q;simp only [z6,zb] at h;obtain ⟨rfl,rfl⟩:=h;exact xEs hR ho (hρ a) (hρ v) q
 . rename_i c ho;split at h
   case h_2=>simp at h
   rename_i b J;split at h
   . rename_i t t' s y O Q;split at h
     . exact xGt hR hB ho J O Q (hρ s) (hρ y) h
     . split at h
       . exact xFw hR hB ho J O Q (hρ s) (hρ y) h
       . exact xvM hR hB ho J O Q (hρ s) (hρ y) h
   . rename_i t x O Q;split at h
     case h_2=>simp at h
     rename_i H2 q;simp only [z6,zb] at h;obtain ⟨rfl,rfl⟩:=h;exact xDW hR ho J O Q (hρ x) q
   . simp at h
 . rename_i t m k c ho;split at h
   . rename_i r q;simp only [z6,zb] at h;obtain ⟨rfl,rfl⟩:=h;exact xFX hR ho (hρ m) (hρ k) q
   . split at h
     case h_2=>simp at h
     rename_i r q;simp only [z6,zb] at h;obtain ⟨rfl,rfl⟩:=h;exact xD8 hR ho (hρ m) (hρ k) q
 . rename_i t m k v ho;split at h
   . rename_i H2 q;simp only [z6,zb] at h;obtain ⟨rfl,rfl⟩:=h;exact xF6 hR (.inl ho) (hρ m) (hρ k) (hρ v) q
   . split at h
     case h_2=>simp at h
     rename_i H2 q;simp only [z6,zb] at h;obtain ⟨rfl,rfl⟩:=h;exact xF8 hR (.inl ho) (hρ m) (hρ k) (hρ v) q
 . rename_i t r ho;split at h
   . exact xD9 hR hB ho h
   . simp at h
 . simp at h
end
def absAppE (P:Program) (H:List Box) (nid:Nat) (t tt:TypeId) (s x:AV):Option (AV×Option Box) :=
 match s with
 | .empt=>match xMU P t with
  | some ti=>match ti.d with
   | .slice e=>match xMU P e with
    | some te=>match absSrc P H t tt e te.sz x with
     | some (ys,pm)=>if 0<te.sz/\ys.length*te.bytes<=140737488355328/\ys.length<=xNJ/\te.zero.okElem te.sz=true then some (.osl nid 0 0 ys.length,some ⟨0,te.sz,e,ys,false,pm⟩) else none
     | none=>none
    | none=>none
   | _=>none
  | none=>none
 | _=>none
section
variable {P : Program} {w : World} {A : Nat -> Prop} {M : Id -> Option MB} {B : Nat} {H : List Box} {nid : Nat}
theorem HR.virtAt (hR:HR w A M B H) (hn:Free M nid) {bx:Box} (hH:H[nid]?=some bx) (hx:bx.xs=[]) (W:isC bx.ty=false) :
  MExt M (MPut M nid ⟨0,bx.ver,bx.sz,0,bx.ty⟩)/\NewId w M (MPut M nid ⟨w.heap.size,bx.ver,bx.sz,0,bx.ty⟩) nid/\HR w A (MPut M nid ⟨w.heap.size,bx.ver,bx.sz,0,bx.ty⟩) B H/\MPut M nid ⟨w.heap.size,bx.ver,bx.sz,0,bx.ty⟩ nid=some ⟨w.heap.size,bx.ver,bx.sz,0,bx.ty⟩/\MExt M (MPut M nid ⟨w.heap.size,bx.ver,bx.sz,0,bx.ty⟩):=by
 have Q:MExt M (MPut M nid ⟨w.heap.size,bx.ver,bx.sz,0,bx.ty⟩):=xsc hn _;have O:∀ id m',MPut M nid ⟨w.heap.size,bx.ver,bx.sz,0,bx.ty⟩ id=some m'->0<m'.cap->M id=some m':=fun id m' hm h0=>by
  by_cases q:id=.b nid
  . subst q;simp [MPut] at hm;subst hm;exact absurd h0 (by simp)
  . simpa [MPut,q] using hm
 refine ⟨xsc hn _,⟨fun id q=>by simp [MPut,q],fun m' J=>.inr (by simp [MPut] at J;subst J;exact zd _)⟩,⟨fun id m' J=>?_,fun id id' m1 m2 h1 h2 c1 c2 he=>hR.inj id id' m1 m2 (O id m1 h1 c1) (O id' m2 h2 c2) c1 c2 he,hR.lt⟩,by simp [MPut],Q⟩
 by_cases q:id=.b nid
 . subst q;have:m'=⟨w.heap.size,bx.ver,bx.sz,0,bx.ty⟩:=by simp [MPut] at J;exact J.symm
   subst this;have hc:∀ {p:Prop},0<(0:Nat)->p:=fun h=>absurd h (by simp)
   exact ⟨bx,hH,rfl,rfl,xaS W,zQ _,by rw [hx];exact zQ _,fun x U=>by rw [hx] at U;simp at U,hc,hc,hc,hc⟩
 . have V:M id=some m':=by simpa [MPut,q] using J
   obtain ⟨bx',g1,g2⟩:=hR.box id m' V;exact ⟨bx',g1,g2.mono (fun _=>rfl) (fun _ _ _=>rfl) (zd _) (fun _ _ h=>h) g2.guard Q⟩
theorem xFy (hR:HR w A M B H) (hB:B<=w.heap.size) (hn:Free M nid) {o:Oper} {ρc:Operand->Value} {c:Call} {t tt:TypeId} {os ox:Operand} {xs xx r:AV} {nb:Option Box} (ho:o.op=.call c) (ag:c.callee=.builtin .append)
  (ak:c.argTypes.toList=[t,tt]) (al:c.args.toList=[os,ox]) (hs:Rel w A M (ρc os) xs) (hx:Rel w A M (ρc ox) xx) (h:absAppE P H nid t tt xs xx=some (r,nb)) (hH:∀ bx,nb=some bx->∃ f,H[nid]?=some { bx with frz:=f }) :
  Gives P o ρc w A M B H nid r:=by
 unfold absAppE at h;split at h
 case h_2=>simp at h
 split at h
 case h_2=>simp at h
 rename_i ti a0;split at h
 case h_2=>simp at h
 rename_i e hd;split at h
 case h_2=>simp at h
 rename_i te U;split at h
 case h_2=>simp at h
 rename_i ys pm ao;split at h
 case isFalse=>simp at h
 rename_i ap;obtain ⟨af,am,aw,J⟩:=ap;simp only [z6,zb] at h;obtain ⟨rfl,rfl⟩:=h;obtain ⟨f,ad⟩:=hH _ rfl;have hu:P.underlying t=some (.slice e):=by rw [xlo a0,hd]
 obtain ⟨i,z,Z,a1,aq,au,ac,az,_⟩:=xaV U;have ab:isC e=false:=xl3 U;have hts':c.argTypes=#[t,tt]:=by apply Array.ext';simpa using ak
 have has':c.args=#[os,ox]:=by apply Array.ext';simpa using al
 have q:∀ v w',(Builtin.append_ #[t,tt] o.type #[ρc os,ρc ox]).run P w=.ok v w'->(execOp ρc o).run P w=.ok (.value v) w':=by
  intro v w' hv;simp [execOp,ho,resolve,ag,hts',has',invoke,builtin,hv,Go.resolve]
 have V:∃ a,ρc os=.slice a 0 0:=by
  generalize ρc os=v at hs;cases hs with|empt a=>exact ⟨a,rfl⟩
 obtain ⟨a,V⟩:=V;rw [V] at q;rcases xr1 hR U af hu (ty:=o.type) Z hx ao with ⟨rfl,ar⟩|⟨a5,an,news,Y,aj,W⟩
 . obtain ⟨_,g2,g3,g4,g5⟩:=hR.virtAt hn ad rfl ab;exact ⟨.slice a 0 0,w,A,_,q _ _ (ar a 0 0 (zd _)),Below.refl _ _,g5,fun _ _=>Iff.rfl,g2,g3,.osl _ (.b nid) 0 0 0 _ g4 (zd _) rfl fun _=>⟨by simp,a,by simp,fun h=>by simp at h⟩⟩
 have a2:ys.length<=4611686018427387904:=aw;have ax:Rel w A M z te.zero:=by rw [az];exact xcL w A M z
 obtain ⟨a3,_⟩:=ax.cells (xaF J);have a4:=xan J;have O:(Builtin.append_ #[t,tt] o.type #[.slice a 0 0,ρc ox]).run P w=.ok (.slice (some ⟨w.heap.size,0,none⟩) ys.length (grownCap w ys.length 0 e)) (w.drew.alloc (.cells (news.toArray++Builtin.zeroCells z.cells (grownCap w ys.length 0 e - ys.length)) e)):=by
  have R:=W i z Z aq au.symm;cases a with
  | none=>exact R.nil (by omega) (by rw [<-ac];omega)
  | some b =>
   have:=R.grow b 0 0 [] (by simp) (fun j u hj=>by simp at hj) (by omega) (by omega) (growslice_fits (by omega) (by rw [<-ac];simpa using am))
   simpa using this
 have Q:=grownCap_ge w ys.length 0 e;have ah:=grownCap_le_maxLen w ys.length 0 e (by unfold maxLen;omega)
 generalize hcap:grownCap w ys.length 0 e=cap at O Q ah;have ae:(Builtin.zeroCells z.cells (cap - ys.length)).size=(cap - ys.length)*te.sz:=by rw [size_zeroCells];congr 1;omega
 have ay:=xrJ (bx:=⟨0,te.sz,e,ys,f,pm⟩) (nid:=nid) (c:=news.toArray++Builtin.zeroCells z.cells (cap - ys.length)) (cap:=cap) hR.drew (by simpa using hB) hn ab ad ah
  (by rw [Array.size_append,List.size_toArray,Y,ae,<-Nat.add_mul];congr 1;omega) Q an
  (fun i' j ai hj=>by
   have hk:i'*te.sz+j<ys.length*te.sz:=xc8 ai hj;have e1:(news.toArray++Builtin.zeroCells z.cells (cap - ys.length)).getD (i'*te.sz+j) undef=news.getD (i'*te.sz+j) undef:=by
    simp only [zu,Array.getElem?_append,List.size_toArray,Y,hk,if_true,List.getElem?_toArray,z7]
   rw [e1];exact (aj _ _ ai hj).grow ⟨rfl,rfl,rfl,zd _,fun _ _=>rfl⟩)
 obtain ⟨s1,s2,s3,s4,s5⟩:=ay;have aa:Below w.heap.size w (w.drew.alloc (.cells (news.toArray++Builtin.zeroCells z.cells (cap - ys.length)) e)):=((Below.refl _ _).drew).alloc (by simp) _
 exact ⟨_,_,_,_,q _ _ O,aa,s1,s2,s3,s4,.osl _ (.b nid) 0 0 ys.length _ s5 (zd _) rfl fun _=>⟨by simpa using Q,some ⟨w.heap.size,0,none⟩,by simp,fun _=>by simp⟩⟩
end
theorem xJH {P:Program} {w:World} {A:Nat->Prop} {M:Id->Option MB} {B:Nat} {H:List Box} {nid:Nat} {o:Oper} {ρc:Operand->Value} {e:TypeId} {v:Value} {x:AV} (hR:HR w A M B H) (hv:Rel w A M v x) (J:x.cells.all AV.one=true) (hp:x.pure=true)
  (Q:(execOp ρc o).run P w=.ok (.value (.pointer (some ⟨w.heap.size,0,none⟩))) (w.alloc (.cells v.cells e))):Gives P o ρc w A M B H nid (.eptr x.cells.length [x] 0 0):=by
 obtain ⟨h1,h2⟩:=hv.cells J;have q:=xjr w (.cells v.cells e);have U:¬ A w.heap.size:=fun h=>Nat.lt_irrefl _ (hR.lt _ h)
 have:=Rel.eptr (w:=w.alloc (.cells v.cells e)) (A:=A) (M:=M) w.heap.size 0 x.cells.length [x] 0 0 (fun _ j=>v.cells.getD j undef) U (by simp) (by simp)
  (fun y hy=>by simp only [zv] at hy;subst hy;simp only [AV.okElem,beq_self_eq_true,Bool.true_and];exact J)
  (fun i j hi hj=>by
   have O:i=0:=by simpa using hi
   subst O;have hj':j<v.cells.size:=by rw [h1];exact hj
   have hb:(w.alloc (.cells v.cells e)).heap[w.heap.size]?=some (.cells v.cells e):=heap_alloc_new w _;rw [Nat.zero_mul,zH];unfold World.cell?;simp only [hb];simp [hj'])
  (fun i j hi hj=>by
   have O:i=0:=by simpa using hi
   subst O;exact ((h2 j hj).pure (xfu (xnQ hp) j)).grow q)
 exact ⟨_,w.alloc (.cells v.cells e),A,M,Q,q,MExt.refl M,fun _ _=>Iff.rfl,⟨fun _ _=>rfl,fun _ h=>.inl h⟩,hR.grow q,by simpa using this⟩
def fopE (P:Program) (ρ:Operand->AV) (H:List Box) (nid:Nat) (op:Op):Option (AV×Option Box) :=
 match op with
 | .buildSlice t len parts=>match len,parts.toList with
  | 0,[]=>match xMU P t with
   | some ti=>match ti.d with
    | .slice e=>match xMU P e with
     | some _=>some (.empt,none)
     | none=>none
    | _=>none
   | none=>none
  | _,_=>none
 | .call c=>match c.callee with
  | .builtin b=>match b,c.argTypes.toList,c.args.toList with
   | .append,[t,t'],[s,x]=>absAppE P H nid t t' (ρ s) (ρ x)
   | _,_,_=>none
  | _=>none
 | .box _ x=>if (ρ x).cells.all AV.one=true/\(ρ x).pure=true then some (.eptr (ρ x).cells.length [ρ x] 0 0,none) else none
 | .lookup t m k c=>match absLookR P H t (ρ m) (ρ k) c with
  | some r=>some (r,none)
  | none=>none
 | _=>none
theorem xII {P:Program} {ρ:Operand->AV} {H:List Box} {n n':Nat} {op:Op} {x:AV} (h:fopE P ρ H n op=some (x,none)):fopE P ρ H n' op=some (x,none):=by
 unfold fopE at h |-;split at h
 . exact h
 . split at h
   . split at h
     . exfalso;unfold absAppE at h;repeat' split at h
       all_goals simp at h
     . simp at h
   . simp at h
 . exact h
 . exact h
 . simp at h
theorem xFN {P:Program} {w:World} {A:Nat->Prop} {M:Id->Option MB} {B:Nat} {H:List Box} {nid:Nat} {ρ:Operand->AV} {ρc:Operand->Value} {o:Oper} {x:AV} {nb:Option Box} (hf:fopE P ρ H nid o.op=some (x,nb)) (hρ:∀ a,a∈o.op.operands.toList->Rel w A M (ρc a) (ρ a))
  (hR:HR w A M B H) (hB:B<=w.heap.size) (hn:Free M nid) (hH:∀ bx,nb=some bx->∃ f,H[nid]?=some { bx with frz:=f }):Gives P o ρc w A M B H nid x:=by
 unfold fopE at hf;split at hf
 . rename_i t len U ho;split at hf
   case h_2=>simp at hf
   rename_i q;split at hf
   case h_2=>simp at hf
   rename_i ti ae;split at hf
   case h_2=>simp at hf
   rename_i e hd;split at hf
   case h_2=>simp at hf
   rename_i te Z;simp only [z6,zb] at hf;obtain ⟨rfl,rfl⟩:=hf;have af:U=#[]:=by apply Array.ext';simpa using q
   subst af;have ac:P.underlying t=some (.slice e):=by rw [xlo ae,hd]
   obtain ⟨i,z,ad,ag,ab,ah,_⟩:=xaV Z;have W:(Instr.buildSlice t 0 #[]).run P w=.ok (.slice (some ⟨w.heap.size,0,none⟩) 0 0) (w.alloc (.cells #[] e)):=by
    simp [Instr.buildSlice,run_underlying ac,sizeOf,typeInfo,ad,Go.newRow,zeroValue,ab,Instr.fill,show Array.range 0=#[] from rfl]
   have J:=xjr w (.cells #[] e);refine ⟨.slice (some ⟨w.heap.size,0,none⟩) 0 0,w.alloc (.cells #[] e),A,M,?_,J,MExt.refl M,fun _ _=>Iff.rfl,⟨fun _ _=>rfl,fun _ h=>.inl h⟩,hR.grow J,.empt _⟩
   simp only [execOp,ho,List.map_toArray,zW,Array.map_empty,Sem.run_bind,W,Result.andThen_ok,Sem.run_pure]
 . rename_i c ho;split at hf
   case h_2=>simp at hf
   rename_i b Q;split at hf
   . rename_i t t' s y aa V;have O:∀ a,a∈c.args.toList->Rel w A M (ρc a) (ρ a):=fun a ha=>hρ a (by simp [ho,Op.operands,Call.operands,Q];simpa using ha)
     exact xFy hR hB hn ho Q aa V (O s (by rw [V];simp)) (O y (by rw [V];simp)) hf hH
   . simp at hf
 . rename_i e a ho;split at hf
   case isFalse=>simp at hf
   rename_i hc;obtain ⟨Y,hp⟩:=hc;simp only [z6,zb] at hf;obtain ⟨rfl,rfl⟩:=hf;exact xJH (e:=e) hR (hρ a (by simp [ho,Op.operands])) Y hp (by simp [execOp,ho,Instr.box,newVar,Go.newRow])
 . rename_i t m k c ho;split at hf
   case h_2=>simp at hf
   rename_i r hr;simp only [z6,zb] at hf;obtain ⟨rfl,rfl⟩:=hf;obtain ⟨v,h1,h2⟩:=xA8 hR (hρ m (by simp [ho,Op.operands])) (hρ k (by simp [ho,Op.operands])) hr
   exact .stay hR ⟨v,by simp [execOp,ho,h1],h2⟩
 . simp at hf
end Go.Sim
end
