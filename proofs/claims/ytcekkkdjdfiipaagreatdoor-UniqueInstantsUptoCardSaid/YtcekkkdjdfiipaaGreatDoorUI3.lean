/- Part 3 of the proof of the law. -/
import Derived.Test.YtcekkkdjdfiipaaGreatDoorUI2
import Derived.Laws.OwnMore
import Derived.Laws.Append
import Derived.Laws.AppendOwn
import Derived.Lib.AppendStr
import Derived.Tactics
import Derived.LoopN
set_option linter.unusedVariables false
set_option linter.unusedSimpArgs false
set_option linter.unnecessarySimpa false
noncomputable section
namespace Go.Sim
open Go.RowKit
mutual
def AV.flat:AV->Bool
 | .agg cs=>AV.flats cs
 | .list _ _=>false
 | .eptr _ _ _ _=>false
 | .own _ _ _ _=>false
 | .osl _ _ _ _=>false
 | .func f cs=>match Nat.beq f vpF with
  | true=>false
  | false=>AV.flats cs
 | .tuple vs=>AV.flats vs
 | .top=>true
 | .bool _=>true
 | .int _ _=>true
 | .str _=>true
 | .nils=>true
 | .nilptr=>true
 | .nilfn=>true
 | .empt=>true
 | .gptr _=>true
 | .yld _=>true
def AV.flats:List AV->Bool
 | []=>true
 | x::xs=>AV.flat x&&AV.flats xs
end
theorem xz8:∀ xs:List AV,AV.flats xs=xs.all AV.flat
 | []=>by simp [AV.flats]
 | x::xs=>by simp [AV.flats,xz8 xs]
theorem xr2 {xs:List AV} (h:AV.flats xs=true) (i:Nat):(xs.getD i .top).flat=true:=by
 rw [xz8,zH] at h;by_cases hi:i<xs.length
 . simp only [z6,zd hi,zg];exact h _ (zn _)
 . simp [z6,zy (Nat.le_of_not_lt hi),AV.flat]
theorem Rel.flat {w w':World} {A A':Nat->Prop} {M M':Id->Option MB} {v:Value} {x:AV} (h:Rel w A M v x):x.flat=true->Rel w' A' M' v x:=by
 induction h generalizing M' with
 | top v=>intro _;exact .top v
 | bool b=>intro _;exact .bool b
 | int k n=>intro _;exact .int k n
 | str s=>intro _;exact .str s
 | agg vs cs h hr ih=>intro hp;exact .agg vs cs h fun i hi=>ih i hi (xr2 (by simpa [AV.flat] using hp) i)
 | nils=>intro _;exact .nils
 | list0 a cap sz=>intro _;exact .list0 a cap sz
 | list b off cap sz xs val ha hb hne hcap hsz hc hr ih=>intro hp;simp [AV.flat] at hp
 | eptr b off sz xs i0 j0 val ha hb hi hsz hc hr ih=>intro hp;simp [AV.flat] at hp
 | own v id ver i j m hm hv h1 he=>intro hp;simp [AV.flat] at hp
 | osl v id ver off len m hm hv h1 he=>intro hp;simp [AV.flat] at hp
 | nilptr=>intro _;exact .nilptr
 | func f vs cs h hr hf ih =>
  intro hp;cases hv:Nat.beq f vpF with
  | true=>simp [AV.flat,hv] at hp
  | false=>exact .func f vs cs h (fun i hi=>ih i hi (xr2 (by simpa [AV.flat,hv] using hp) i)) hf
 | vptr b off v0 x ha hb hc hr ih=>intro hp;exact absurd hp (by simp [AV.flat,vpF])
 | nilfn=>intro _;exact .nilfn
 | nmap=>intro _;exact .nmap
 | empt a=>intro _;exact .empt a
 | tuple vs cs h hr ih=>intro hp;exact .tuple vs cs h fun i hi=>ih i hi (xr2 (by simpa [AV.flat] using hp) i)
 | gptr g=>intro _;exact .gptr g
 | yld g=>intro _;exact .yld g
def mapO (r:AV->Option AV):List AV->Option (List AV)
 | []=>some []
 | x::xs=>match r x,mapO r xs with
  | some y,some ys=>some (y::ys)
  | _,_=>none
def resE (r:AV->Option AV):AV->Option AV
 | .agg cs=>match mapO r cs with
  | some ds=>some (.agg ds)
  | none=>none
 | x=>r x
def mapE (pm:Bool) (r:AV->Option AV) (xs:List AV):Option (List AV):=if pm=true then some xs else mapO (resE r) xs
def AV.toList:AV->List AV
 | .list _ xs=>xs
 | _=>[]
def xL0 (sz:Nat):AV->Bool
 | .list z _=>Nat.beq z sz
 | _=>false
def xLR (sz j:Nat) (q:List AV):Bool:=q.all fun x=>xL0 sz (x.cells.getD j .top)
def rowsOk (bx:Box) (q:List AV):Bool:=match isC bx.ty with
 | false=>true
 | true=>bx.pm&&xLR (rowSz bx.ty) (xLr bx.ty) q
def resolve (H:List Box):Nat->AV->Option AV
 | 0,x=>if x.pure=true then some x else none
 | n+1,x=>if x.pure=true then some x else
  match x with
  | .agg cs=>match mapO (resolve H n) cs with|some ds=>some (.agg ds)|none=>none
  | .func f cs=>match Nat.beq f vpF with
   | true=>none
   | false=>match mapO (resolve H n) cs with|some ds=>some (.func f ds)|none=>none
  | .own id ver i j=>match xLo H id ver with
   | some bx=>match mapE bx.pm (resolve H n) bx.xs with
    | some ys=>if i<bx.xs.length/\isC bx.ty=false then some (.eptr bx.sz ys i j) else none
    | none=>none
   | none=>none
  | .osl id ver off len=>match xLo H id ver with
   | some bx=>match mapE bx.pm (resolve H n) ((bx.xs.drop off).take len) with
    | some ys=>if off+len<=bx.xs.length/\rowsOk bx ((bx.xs.drop off).take len)=true then some (.list bx.sz ys) else none
    | none=>none
   | none=>none
  | _=>none
def reach (H:List Box):Nat->AV->List Nat
 | 0,_=>[]
 | n+1,x=>if x.pure=true then [] else
  match x with
  | .agg cs=>cs.flatMap (reach H n)
  | .func _ cs=>cs.flatMap (reach H n)
  | .own id _ _ _=>id.base::(match getB H id with|some bx=>if bx.pm=true then [] else bx.xs.flatMap fun (e:AV)=>e.cells.flatMap (reach H n)|none=>[])
  | .osl id _ off len=>id.base::(match getB H id with|some bx=>if bx.pm=true then [] else ((bx.xs.drop off).take len).flatMap fun (e:AV)=>e.cells.flatMap (reach H n)|none=>[])
  | _=>[]
theorem xat {xs:List AV} {i:Nat} (hi:i<xs.length):xs.getD i .top∈xs:=by
 simp only [z6,zd hi,zg];exact zn _
theorem xsk {H:List Box} {n:Nat} {x:AV} (h:x.pure=true):reach H n x=[]:=by
 cases n with
 | zero=>rfl
 | succ n=>unfold reach;rw [if_pos h]
theorem xdw {r:AV->Option AV}:∀ {xs ys:List AV},mapO r xs=some ys->ys.length=xs.length/\∀ i,i<xs.length->r (xs.getD i .top)=some (ys.getD i .top)
 | [],ys,h=>by simp [mapO] at h;subst h;simp
 | x::xs,ys,h=>by
  unfold mapO at h;split at h
  . rename_i y zs h1 h2;cases h;obtain ⟨e1,e2⟩:=xdw h2;refine ⟨by simp [e1],fun i hi=>?_⟩
    cases i with
    | zero=>simpa using h1
    | succ i=>have:=e2 i (by simp at hi;omega);simpa using this
  . simp at h
theorem xEJ {r:AV->Option AV} {xs ys:List AV} (h:mapO r xs=some ys) {i:Nat} (hi:i<xs.length):r (xs.getD i .top)=some (ys.getD i .top):=(xdw h).2 i hi
theorem xDl {H:List Box} {n:Nat} {x y:AV} (h:resE (resolve H n) x=some y) (hx:x.cells.all AV.one=true) :
  y.cells.length=x.cells.length/\∀ j,j<x.cells.length->resolve H n (x.cells.getD j .top)=some (y.cells.getD j .top):=by
 have key:∀ x y:AV,x.cells=[x]->x.one=true->resolve H n x=some y->y.cells.length=x.cells.length/\∀ j,j<x.cells.length->resolve H n (x.cells.getD j .top)=some (y.cells.getD j .top):=by
  intro x y hc h1 hr;have hy:y.cells=[y]:=by
   cases n with
   | zero =>
    unfold resolve at hr;split at hr
    . cases hr;exact hc
    . simp at hr
   | succ n =>
    unfold resolve at hr;split at hr
    . cases hr;exact hc
    . split at hr<;>first
       | (simp [AV.one] at h1;done)
       | (simp at hr;done)
       | (
        split at hr
        . simp at hr
        . split at hr
          . cases hr;rfl
          . simp at hr)
       | (
        split at hr
        . cases hr;rfl
        . simp at hr)
       | (
        split at hr
        . split at hr
          . split at hr
            . cases hr;rfl
            . simp at hr
          . simp at hr
        . simp at hr)
  rw [hc,hy];refine ⟨rfl,fun j hj=>?_⟩
  have:j=0:=by simpa using hj
  subst this;exact hr
 cases x with
 | agg cs =>
  simp only [resE] at h;split at h
  . rename_i ds q;cases h;exact ⟨(xdw q).1,fun j hj=>xEJ q hj⟩
  . simp at h
 | top=>simp [AV.cells,AV.one] at hx
 | tuple vs=>simp [AV.cells,AV.one] at hx
 | _=>exact key _ _ rfl (by simpa [AV.cells] using hx) h
theorem xBE {H:List Box} {n:Nat} {x y:AV} (h:resolve H n x=some y) (hx:x.one=true):y.one=true:=by
 cases n with
 | zero =>
  unfold resolve at h;split at h
  . cases h;exact hx
  . simp at h
 | succ n =>
  unfold resolve at h;split at h
  . cases h;exact hx
  . split at h<;>first
     | (simp [AV.one] at hx;done)
     | (simp at h;done)
     | (
      split at h
      . simp at h
      . split at h
        . cases h;rfl
        . simp at h)
     | (
      split at h
      . cases h;rfl
      . simp at h)
     | (
      split at h
      . split at h
        . split at h
          . cases h;rfl
          . simp at h
        . simp at h
      . simp at h)
theorem xjB {H:List Box} {n:Nat} {x:AV} (h:x.pure=true):resolve H n x=some x:=by
 cases n<;>simp [resolve,h]
theorem xvK {H:List Box} {n sz:Nat} {pm:Bool} {xs ys:List AV} (h:mapE pm (resolve H n) xs=some ys) (q:∀ x,x∈xs->x.okElem sz=true) :
  ys.length=xs.length/\(∀ y,y∈ys->y.okElem sz=true)/\(pm=true->ys=xs)/\(¬ pm=true->∀ i j,i<xs.length->j<sz->resolve H n ((xs.getD i .top).cells.getD j .top)=some ((ys.getD i .top).cells.getD j .top)):=by
 unfold mapE at h;split at h
 . rename_i hp;cases h;exact ⟨rfl,q,fun _=>rfl,fun h=>absurd hp h⟩
 . rename_i O;obtain ⟨h1,h2⟩:=xdw h;have at_:∀ i,i<xs.length->xs.getD i .top∈xs:=fun i hi=>by
    simp only [z6,zd hi,zg];exact zn _
   have cell:∀ i,i<xs.length->(ys.getD i .top).cells.length=sz/\∀ j,j<sz->resolve H n ((xs.getD i .top).cells.getD j .top)=some ((ys.getD i .top).cells.getD j .top):=by
    intro i hi;have hk:=q _ (at_ i hi);obtain ⟨e1,e2⟩:=xDl (h2 i hi) (xaC hk);have hl:=xan hk;exact ⟨by omega,fun j hj=>e2 j (by omega)⟩
   refine ⟨h1,fun y hy=>?_,fun h=>absurd h O,fun _ i j hi hj=>(cell i hi).2 j hj⟩
   obtain ⟨i,hi,rfl⟩:=zo.1 hy;have hi':i<xs.length:=by omega
   obtain ⟨c1,c2⟩:=cell i hi';have e:ys.getD i .top=ys[i]:=by simp [z6,hi]
   rw [e] at c1 c2;simp only [AV.okElem,c1,beq_self_eq_true,Bool.true_and,zH];intro c hc;obtain ⟨j,hj,rfl⟩:=zo.1 hc;have hk:=xaC (q _ (at_ i hi'));have hl:=xan (q _ (at_ i hi'));have hj':j<sz:=by omega
   have h3:=c2 j hj';have e3:ys[i].cells.getD j .top=ys[i].cells[j]:=by simp [z6,hj]
   rw [e3] at h3;refine xBE h3 ?_;rw [zH] at hk;have J:j<(xs.getD i .top).cells.length:=by omega
   exact hk _ (xat J)
section
variable {w : World} {A A' : Nat -> Prop} {M M' : Id -> Option MB} {B : Nat} {H : List Box}
theorem xEx {n:Nat} {id:Id} {e:AV} {bx:Box} (hb:getB H id=some bx) (q:¬ bx.pm=true) (he:e∈bx.xs) {c:AV} (hc:c∈e.cells) {k:Nat} (hk:k∈reach H n c) :
  k∈(match getB H id with|some bx=>if bx.pm=true then [] else bx.xs.flatMap fun (e:AV)=>e.cells.flatMap (reach H n)|none=>[]):=by
 simp only [hb,q,if_false];exact y2.2 ⟨e,he,y2.2 ⟨c,hc,hk⟩⟩
theorem xE0 {n:Nat} {id:Id} {off len:Nat} {e:AV} {bx:Box} (hb:getB H id=some bx) (q:¬ bx.pm=true) (he:e∈(bx.xs.drop off).take len) {c:AV} (hc:c∈e.cells) {k:Nat} (hk:k∈reach H n c) :
  k∈(match getB H id with|some bx=>if bx.pm=true then [] else ((bx.xs.drop off).take len).flatMap fun (e:AV)=>e.cells.flatMap (reach H n)|none=>[]):=by
 simp only [hb,q,if_false];exact y2.2 ⟨e,he,y2.2 ⟨c,hc,hk⟩⟩
theorem xjv {xs:List AV} {c:AV} (h:c∈xs):∃ i,i<xs.length/\xs.getD i .top=c:=by
 obtain ⟨i,hi,rfl⟩:=zo.1 h;exact ⟨i,hi,by simp [z6,hi]⟩
theorem xcy {H:List Box} {n:Nat} {b:Box} (h:H[n]?=some b):n<H.length:=by
 rcases zI n H.length with h'|h'
 . exact h'
 . rw [zy h'] at h;simp at h
theorem xlx {H H':List Box} {x:Id} (h:H[x.base]?=H'[x.base]?):getB H x=getB H' x:=by
 cases x with
 | b n=>exact h
 | r n i j=>simp only [Id.base] at h;simp only [getB,h]
theorem xpC {H:List Box} {n i j:Nat} {rb:Box} (h:getB H (.r n i j)=some rb):∃ bx:Box,H[n]?=some bx/\(isC bx.ty=false/\rb=tombB\/isC bx.ty=true/\xLm bx.ty j=true/\bx.pm=true/\i<bx.xs.length/\rb=xLN bx ((bx.xs.getD i .top).cells.getD j .top)):=by
 simp only [getB] at h;split at h
 . rename_i bx hb;split at h
   . rename_i q;split at h
     . rename_i hc;simp only [z1] at h;exact ⟨bx,hb,.inr ⟨q,hc.1,hc.2.1,hc.2.2,h.symm⟩⟩
     . simp at h
   . rename_i q;simp only [z1] at h;exact ⟨bx,hb,.inl ⟨q,h.symm⟩⟩
 . simp at h
theorem xf8 {H:List Box} {n i j:Nat} {rb bx:Box} (hb:H[n]?=some bx) (hC:isC bx.ty=true) (h:getB H (.r n i j)=some rb):xLm bx.ty j=true/\bx.pm=true/\i<bx.xs.length/\rb=xLN bx ((bx.xs.getD i .top).cells.getD j .top):=by
 obtain ⟨q,h1,h2⟩:=xpC h;rw [hb] at h1;cases h1;rcases h2 with ⟨h2,_⟩|⟨_,h2⟩
 . rw [hC] at h2;cases h2
 . exact h2
theorem xdi {H:List Box} {n i j:Nat} {bx:Box} (hb:H[n]?=some bx) (hC:isC bx.ty=true) (hs:xLm bx.ty j=true) (hp:bx.pm=true) (hi:i<bx.xs.length):getB H (.r n i j)=some (xLN bx ((bx.xs.getD i .top).cells.getD j .top)):=by
 simp only [getB,hb,hC];exact if_pos ⟨hs,hp,hi⟩
theorem xd8 {H:List Box} {n i j:Nat} {bx:Box} (hb:H[n]?=some bx) (hC:isC bx.ty=false):getB H (.r n i j)=some tombB:=by
 simp only [getB,hb,hC]
theorem xeC {t:TypeId} {j:Nat} (h:xLm t j=true):isC t=true:=by
 cases hc:isC t with
 | true=>rfl
 | false=>rw [xpD hc] at h;cases h
theorem xdx {sz:Nat} {x:AV} (h:xL0 sz x=true):∃ ys,x=.list sz ys:=by
 cases x<;>first|(simp [xL0] at h;done)|skip
 rename_i z ys;exact ⟨ys,by rw [zf h]⟩
theorem xAQ (hR:HR w A M B H) (hA:∀ b,b<w.heap.size->A' b->A b) {n i j sz:Nat} {ys:List AV} {v:Value} {bx:Box} (hb:H[n]?=some bx) (hC:isC bx.ty=true) (hx:(bx.xs.getD i .top).cells.getD j .top=.list sz ys)
  (h:Rel w A M v (xMp n i j (.list sz ys))) (Q:∀ m,M (.r n i j)=some m->0<m.cap->¬ A' m.b):Rel w A' xLz v (.list sz ys):=by
 obtain ⟨m,hm,U,h1,he⟩:=Rel.osl_inv h;obtain ⟨rb,g1,g2⟩:=hR.box _ m hm;obtain ⟨g4,g5,g6,g7⟩:=xf8 hb hC g1;rw [hx] at g7;subst g7;have hv:2*ys.length=m.ver:=g2.ver;obtain ⟨e1,a,rfl,e2⟩:=he hv;have hsz:sz=m.sz:=g2.sz;subst hsz;have J:isC (xLN bx (.list m.sz ys)).ty=false:=xbF _;simp only [rowLen,Nat.sub_zero,zG] at e1 e2 |-;by_cases hz:ys=[]
 . subst hz;exact .list0 _ _ _
 . have hl:0<ys.length:=List.length_pos_iff.2 hz;have q:0<m.cap:=by omega
   obtain ⟨c,c1,c2,c3⟩:=g2.cells q
   replace c1:=c1.plain (g2.nomap (xau J))
   have O:=e2 q;subst O;rw [Nat.zero_mul];refine .list m.b 0 m.cap m.sz ys (fun i j=>c.getD (i*m.sz+j) undef) (Q m hm q) (g2.lt q) hz e1 g2.ok (fun i j hi hj=>?_) (fun i j hi hj=>?_)
   . have hk:i*m.sz+j<c.size:=by rw [c2];exact xcz (by omega) hj
     rw [zG];simp [World.cell?,c1,hk]
   . have h4:=c3 i j hi hj;rw [xao J,xa3 J] at h4;exact h4.mono (fun _ _ _=>rfl) (zb _) hA (MExt.refl _)
theorem xdz (hR:HR w A M B H) (hA:∀ b,b<w.heap.size->A' b->A b):∀ (n:Nat) (v:Value) (x y:AV),Rel w A M v x->resolve H n x=some y ->
  (∀ id:Id,id.base∈reach H n x->∀ m,M id=some m->0<m.cap->¬ A' m.b)->Rel w A' xLz v y
 | 0,v,x,y,hx,h,_=>by
  unfold resolve at h;split at h
  . rename_i hp;cases h;exact (hx.mono (fun _ _ _=>rfl) (zb _) hA (MExt.refl M)).pure hp
  . simp at h
 | n+1,v,x,y,hx,h,hid=>by
  unfold resolve at h;unfold reach at hid;split at h
  . rename_i hp;cases h;exact (hx.mono (fun _ _ _=>rfl) (zb _) hA (MExt.refl M)).pure hp
  rename_i hp;simp only [hp,if_false] at hid;split at h
  . rename_i cs;split at h
    case h_2=>simp at h
    rename_i ds ae;cases h;obtain ⟨vs,rfl,hs,hr⟩:=hx.agg_inv;obtain ⟨e1,e2⟩:=xdw ae;exact .agg vs ds (by omega) fun i hi=>xdz hR hA n _ _ _ (hr i (by omega)) (e2 i (by omega)) fun k hk m hm=>hid k (y2.2 ⟨_,xat (by omega),hk⟩) m hm
  . rename_i f cs;split at h
    . simp at h
    rename_i ai;split at h
    case h_2=>simp at h
    rename_i ds ae;cases h;obtain ⟨vs,rfl,hs,hr⟩:=hx.func_inv ai;obtain ⟨e1,e2⟩:=xdw ae;exact .func f vs ds (by omega) (fun i hi=>xdz hR hA n _ _ _ (hr i (by omega)) (e2 i (by omega)) fun k hk m hm=>hid k (y2.2 ⟨_,xat (by omega),hk⟩) m hm) fun e=>by rw [ai] at e;cases e
  . rename_i id ver i j;split at h
    case h_2=>simp at h
    rename_i bx U;split at h
    case h_2=>simp at h
    rename_i ys ac;split at h
    case isFalse=>simp at h
    rename_i hi;obtain ⟨hi,Q⟩:=hi;cases h;obtain ⟨m,hm,q,rfl⟩:=xmc hR hx U;have Y:=(xaz U).1;have J:0<m.cap:=by have:=q.fits;omega
    obtain ⟨c,h1,h2,h3⟩:=q.cells J
    replace h1:=h1.plain (q.nomap (xb5 U))
    obtain ⟨e1,e2,e0,e3⟩:=xvK ac (fun x hx=>q.ok x hx)
    have hsz:=q.sz;have ad:∀ i j,i<bx.xs.length->j<m.sz->w.cell? ⟨m.b,i*m.sz+j,none⟩=some (c.getD (i*m.sz+j) undef):=by
     intro i j hi hj;have hk:i*m.sz+j<c.size:=by rw [h2];exact xcz (Nat.lt_of_lt_of_le hi q.fits) hj
     simp [World.cell?,h1,hk]
    have af:¬ A' m.b:=hid id (by simp) m hm J
    have:=Rel.eptr (w:=w) (A:=A') (M:=xLz) m.b 0 m.sz ys i j (fun i j=>c.getD (i*m.sz+j) undef) af (q.lt J) (by omega) e2
     (fun i j hi hj=>by rw [zG];exact ad i j (by omega) hj)
     (fun i j hi hj=>by
      have h4:=h3 i j (by omega) hj
      rw [xao Q,xa3 Q] at h4;by_cases O:bx.pm=true
      . rw [e0 O];rw [O] at h4;exact h4.mono (fun _ _ _=>rfl) (zb _) hA (MExt.refl _)
      . refine xdz hR hA n _ _ _ h4.unmp (e3 O i j (by omega) hj) fun k hk m' Z=>?_
        refine hid k (List.mem_cons_of_mem _ (xEx Y O (xat (show i<bx.xs.length by omega)) ?_ hk)) m' Z
        have hl:=xan (q.ok _ (xat (show i<bx.xs.length by omega)))
        exact xat (by omega))
    rw [zG] at this;rw [hsz];exact this
  . rename_i id ver off len;split at h
    case h_2=>simp at h
    rename_i bx U;split at h
    case h_2=>simp at h
    rename_i ys ac;split at h
    case isFalse=>simp at h
    rename_i ah;obtain ⟨ah,Q⟩:=ah;cases h;obtain ⟨m,a,hm,q,an,rfl,ha⟩:=xiv hR hx U;have Y:=(xaz U).1;have aj:∀ x,x∈(bx.xs.drop off).take len->x∈bx.xs:=fun x hx=>List.mem_of_mem_drop (List.mem_of_mem_take hx)
    obtain ⟨e1,e2,e0,e3⟩:=xvK ac (fun x hx=>q.ok x (aj x hx))
    have ab:((bx.xs.drop off).take len).length=len:=by simp;omega
    have hg:∀ i,i<len->((bx.xs.drop off).take len).getD i .top=bx.xs.getD (off+i) .top:=fun i hi=>by
     simp [z6,List.getElem?_take,hi,List.getElem?_drop]
    have hsz:=q.sz;rw [ab] at e1;rw [hsz];by_cases hz:len=0
    . have:ys=[]:=zz (by omega)
      subst this;subst hz;exact .list0 _ _ _
    . have am:=ha (by omega);subst am
      have J:0<m.cap:=by omega
      obtain ⟨c,h1,h2,h3⟩:=q.cells J
      replace h1:=h1.plain (q.nomap (xb5 U))
      have af:¬ A' m.b:=hid id (by simp) m hm J
      have:=Rel.list (w:=w) (A:=A') (M:=xLz) m.b (off*m.sz) (m.cap - off) m.sz ys (fun i j=>c.getD ((off+i)*m.sz+j) undef) af (q.lt J) (by intro e;subst e;simp at e1;omega) (by omega) e2
       (fun i j hi hj=>by
        have hk:(off+i)*m.sz+j<c.size:=by rw [h2];exact xcz (by omega) hj
        rw [show off*m.sz+i*m.sz+j=(off+i)*m.sz+j by rw [Nat.add_mul]]
        simp [World.cell?,h1,hk])
       (fun i j hi hj=>by
        have h4:=h3 (off+i) j (by omega) hj
        cases W:xLm bx.ty j with
        | true =>
         have hc:=xeC W;unfold rowsOk at Q;rw [hc] at Q;simp only [xLR,ze,zH] at Q;have hj':j=xLr bx.ty:=by unfold xLm at W;rw [hc] at W;exact zf W
         obtain ⟨zs,aa⟩:=xdx (Q.2 _ (xat (xs:=(bx.xs.drop off).take len) (i:=i) (by omega)))
         rw [hg i (by omega),<-hj'] at aa
         rw [e0 Q.1,hg i (by omega),aa]
         unfold xLK MV at h4;simp only [W] at h4;rw [aa] at h4;cases id with
         | b nn=>exact xAQ hR hA Y hc aa h4 fun m' Z h0=>hid (.r nn (off+i) j) (by simp [Id.base]) m' Z h0
         | r nn i' j' =>
          obtain ⟨ao,_,⟨_,rfl⟩|⟨_,_,_,_,rfl⟩⟩:=xpC Y
          . cases hc
          . rw [xyQ,xbF] at hc;cases hc
        | false =>
        have al:xLK id.base (off+i) j bx.ty ((bx.xs.getD (off+i) .top).cells.getD j .top)=(bx.xs.getD (off+i) .top).cells.getD j .top:=by unfold xLK;rw [W]
        have ak:MV M bx j=MP M bx.pm:=by unfold MV;rw [W]
        rw [al,ak] at h4;by_cases O:bx.pm=true
        . rw [e0 O,hg i (by omega)]
          rw [O] at h4;exact h4.mono (fun _ _ _=>rfl) (zb _) hA (MExt.refl _)
        . have h5:=e3 O i j (by rw [ab];omega) hj
          rw [hg i (by omega)] at h5
          refine xdz hR hA n _ _ _ h4.unmp h5 fun k hk m' Z=>?_
          have ag:bx.xs.getD (off+i) .top∈(bx.xs.drop off).take len:=by rw [<-hg i (by omega)];exact xat (by omega)
          refine hid k (List.mem_cons_of_mem _ (xE0 Y O ag ?_ hk)) m' Z;have hl:=xan (q.ok _ (xat (show off+i<bx.xs.length by omega)))
          exact xat (by omega))
      rw [e1] at this;exact this
  . simp at h
end
end Go.Sim
namespace Go.Sim
open Go.RowKit
def xLX (H:List Box) (sz:Nat):AV->Option (List AV×Bool)
 | .nils=>some ([],true)
 | .list sz' xs=>if sz'=sz then some (xs,true) else none
 | .osl id ver off len=>match xLo H id ver with
  | some bx=>if bx.sz=sz/\off+len<=bx.xs.length/\isC bx.ty=false then some ((bx.xs.drop off).take len,bx.pm) else none
  | none=>none
 | _=>none
def putCells (e:AV) (j n sz:Nat) (v:AV):AV:=if j=0/\n=sz then v else .agg (e.cells.take j++v.cells++e.cells.drop (j+n))
def absSrc (P:Program) (H:List Box) (t tt e:TypeId) (sz:Nat) (x:AV):Option (List AV×Bool) :=
 if t=tt then xLX H sz x else
  match xLk P tt,xLk P e,x with
  | some tj,some te,.str s=>match tj.d,te.d with
   | .string,.int .u8=>if te.sz=1 then some (s.map fun (u:UInt8)=>.int .u8 u.toNat,true) else none
   | _,_=>none
  | _,_,_=>none
def absApp (H:List Box) (e:TypeId) (te:TI) (s:AV) (ys:List AV) (pm:Bool):Option (AV×List Box) :=
 match s with
 | .nils=>if 0<te.sz/\ys.length*te.bytes<=140737488355328/\ys.length<=xL9/\te.zero.okElem te.sz=true then some (.osl H.length 0 0 ys.length,H++[⟨0,te.sz,e,ys,false,pm⟩]) else none
 | .osl (.b id) ver off len=>match xLo H id ver with
  | some bx=>if off=0/\len=bx.xs.length/\bx.frz=false/\bx.sz=te.sz/\bx.ty=e/\0<te.sz/\(len+ys.length)*te.bytes<=140737488355328/\len+ys.length<=xL9/\te.zero.okElem te.sz=true then
   some (.osl id (ver+1) 0 (len+ys.length),H.set id ⟨ver+1,te.sz,e,bx.xs++ys,false,bx.pm&&pm⟩) else none
  | none=>none
 | _=>none
def xMo (P:Program) (H:List Box) (t tt:TypeId) (s x:AV):Option (AV×List Box) :=
 match xLk P t with
 | some ti=>match ti.d with
  | .slice e=>match xLk P e with
   | some te=>match absSrc P H t tt e te.sz x with
    | some (ys,pm)=>absApp H e te s ys pm
    | none=>none
   | none=>none
  | _=>none
 | none=>none
def absStore (P:Program) (H:List Box) (t:TypeId) (a v:AV):Option (List Box) :=
 match xLk P t,a with
 | some ti,.own (.b id) ver i j=>match xLo H id ver with
  | some bx=>match bx.xs[i]? with
   | some e=>if bx.frz=false/\v.okElem ti.sz=true/\j+ti.sz<=bx.sz/\isC bx.ty=false then some (H.set id ⟨ver,bx.sz,bx.ty,bx.xs.set i (putCells e j ti.sz bx.sz v),false,bx.pm&&v.pure⟩) else none
   | none=>none
  | none=>none
 | _,_=>none
def absClear (P:Program) (H:List Box) (t:TypeId) (x:AV):Option (List Box) :=
 match xLk P t with
 | some ti=>match ti.d with
  | .slice e=>match xLk P e with
   | some te=>match x with
    | .osl (.b id) ver off len=>match xLo H (.b id) ver with
     | some bx=>if bx.frz=false/\bx.sz=te.sz/\off+len<=bx.xs.length/\te.zero.okElem te.sz=true/\te.zero.pure=true/\isC bx.ty=false then
      some (H.set id ⟨ver,bx.sz,bx.ty,bx.xs.take off++(List.replicate len te.zero++bx.xs.drop (off+len)),false,bx.pm⟩) else none
     | none=>none
    | _=>none
   | none=>none
  | _=>none
 | none=>none
theorem xjb (l:List AV):(AV.agg l).cells=l:=rfl
def xMc (l:List Value) (o:Nat) (vs:List Value):List Value:=l.take o++vs++l.drop (o+vs.length)
theorem xgx {l:List Value} {o:Nat} {vs:List Value} (h:o+vs.length<=l.length) (k:Nat) :
  (xMc l o vs).getD k undef=if o<=k/\k<o+vs.length then vs.getD (k - o) undef else l.getD k undef:=by
 have h1:min o l.length=o:=by omega
 simp only [xMc,zv,z6,zO,zr,h1];by_cases hk:k<o
 . simp [hk,List.getElem?_take,show ¬ o<=k by omega]
 . by_cases q:k<o+vs.length
   . simp [hk,show k - o<vs.length by omega,q,show o<=k by omega]
   . simp only [hk,if_false,show ¬ (k - o<vs.length) by omega,q,and_false,List.getElem?_drop]
     congr 2;omega
theorem xiC {l:List Value} {o:Nat} {vs:List Value} (h:o+vs.length<=l.length):(xMc l o vs).length=l.length:=by
 simp [xMc];omega
section
variable {P : Program} {w : World} {A : Nat -> Prop} {M : Id -> Option MB} {B : Nat} {H : List Box}
theorem xd9 (l:List Value) (k:Nat):l.toArray.getD k undef=l.getD k undef:=by simp [z6,zt]
theorem xbO (c:Array Value) (k:Nat):c.toList.getD k undef=c.getD k undef:=by simp [z6,zt]
def MSet (M:Id->Option MB) (id:Id) (m:MB):Id->Option MB:=fun i=>if i=id then some m else M i
theorem xpH {id:Id} {m m':MB} (hm:M id=some m) (h:m'=m\/m.ver<m'.ver):MExt M (MSet M id m'):=fun i m1 h1=>by
 by_cases hi:i=id
 . subst hi;rw [hm] at h1;cases h1;exact ⟨m',by simp [MSet],h⟩
 . exact ⟨m1,by simp [MSet,hi,h1],.inl rfl⟩
def Touch (w w':World) (M M':Id->Option MB):Prop :=
 (∀ b,b<w.heap.size->(∀ id m,M id=some m->0<m.cap->m.b≠b)->w'.heap[b]?=w.heap[b]?) /\
 ∀ id m',M' id=some m'->0<m'.cap->(∃ i m,M i=some m/\0<m.cap/\m'.b=m.b)\/w.heap.size<=m'.b
theorem Touch.of_new {w w':World} {M M':Id->Option MB} (hb:Below w.heap.size w w') (h:∀ id m,M' id=some m->M id=some m\/w.heap.size<=m.b):Touch w w' M M' :=
 ⟨fun b h _=>hb.block b h,fun id m' hm h0=>(h id m' hm).imp (fun h=>⟨id,m',h,h0,rfl⟩) (fun h=>h)⟩
theorem xba (H:List Box) (n:Nat):getB H (.b n)=H[n]?:=rfl
theorem xlt {id:Id} {bx:Box} (hb:getB H id=some bx):id.base<H.length:=by
 cases id with
 | b n=>rw [xba] at hb;exact xcy hb
 | r n i j =>
  obtain ⟨q,h,_⟩:=xpC hb;exact xcy h
theorem xug {id:Id} {bx:Box} {l:List Box} (hb:getB H id=some bx):getB (H++l) id=some bx:=by
 rw [<-hb];exact xlx (zN (xlt hb))
theorem xBo {n:Nat} {j:Id} {bx':Box} (h:j.base≠n):getB (H.set n bx') j=getB H j :=
 xlx (by rw [zW (Ne.symm h)])
theorem xc0 {n:Nat} {bx bx':Box} (hb:H[n]?=some bx) (J:isC bx.ty=false) (q:isC bx'.ty=false) {j:Id} (hne:j≠.b n):getB (H.set n bx') j=getB H j:=by
 by_cases hj:j.base=n
 . cases j with
   | b k=>exact absurd (by rw [<-hj];rfl) hne
   | r k i l =>
    simp only [Id.base] at hj;subst hj;rw [xd8 hb J,xd8 (zK (xcy hb)) q]
 . exact xBo hj
theorem xmI (hR:HR w A M B H) {id:Nat} {m m':MB} {bx bx':Box} (q:0<m.cap) (hm:M (.b id)=some m) (hb:H[id]?=some bx) (O:BoxAt w A M B (.b id) m bx) (ac:isC bx.ty=false) (Q:isC bx'.ty=false) (ag:bx.frz=false) {c':Array Value}
  (e1:m'.b=m.b) (e2:m'.cap=m.cap) (e3:m'.sz=m.sz) (e4:m'.ty=m.ty) (e5:m'=m\/m.ver<m'.ver) (f1:bx'.ver=m'.ver) (f2:bx'.sz=m'.sz) (f3:bx'.ty=m'.ty) (f4:bx'.frz=false)
  (ab:bx'.xs.length<=m.cap) (af:∀ x,x∈bx'.xs->x.okElem m.sz=true) (hsz:c'.size=m.cap*m.sz)
  (hc:∀ i j,i<bx'.xs.length->j<m.sz->Rel w A (MP M bx'.pm) (c'.getD (i*m.sz+j) undef) ((bx'.xs.getD i .top).cells.getD j .top)) :
  HR (w.setRow m.b c') A (MSet M (.b id) m') B (H.set id bx')/\MExt M (MSet M (.b id) m')/\(∀ b,b<w.heap.size->¬ A b->(w.setRow m.b c').heap[b]?=w.heap[b]?)/\Below B w (w.setRow m.b c')/\Touch w (w.setRow m.b c') M (MSet M (.b id) m')/\A m.b:=by
 have Z:A m.b:=(O.guard q).1 ag;have U:MExt M (MSet M (.b id) m'):=xpH hm e5;have hs:(w.setRow m.b c').heap.size=w.heap.size:=by simp [World.setRow]
 have hw:∀ b,b<w.heap.size->¬ A b->(w.setRow m.b c').heap[b]?=w.heap[b]?:=fun b _ hb=>setRow_other w m.b b c' fun e=>hb (e▸Z)
 obtain ⟨c,h1,h2,h3⟩:=O.cells q;have ad:xLn m.ty=false:=O.nomap (xau ac)
 replace h1:=h1.plain ad
 refine ⟨⟨?_,?_,fun b hb=>by rw [hs];exact hR.lt b hb⟩,U,hw,⟨rfl,rfl,rfl,by rw [hs];exact zb _,fun k hk=>setRow_other w m.b k c' fun e=>by have:=O.low q;omega⟩,⟨fun b _ hb=>setRow_other w m.b b c' fun e=>hb (.b id) m hm q e.symm,fun i m1 J _=>?_⟩,Z⟩
 . intro i m1 J;by_cases hi:i=.b id
   . subst hi;have:m1=m':=by simp [MSet] at J;exact J.symm
     subst this;refine ⟨bx',by rw [xba,zK (xcy hb)],⟨f1,f2,by rw [xaT Q];exact f3,by rw [e2];exact O.capm,by rw [e2];exact ab,by rw [e3];exact af,fun _=>by rw [e1];exact O.low q,fun _=>by rw [e1,hs];exact O.lt q,fun _=>⟨c',.of (by rw [e4];exact ad) (by rw [e1,e4];exact setRow_heap w m.b c c' m.ty (0,0) h1),by rw [e2,e3];exact hsz,?_⟩,fun _=>⟨fun _=>by rw [e1];exact Z,fun _=>f4⟩⟩⟩
     intro i j hi hj;rw [e3] at hj |-;rw [xao Q,xa3 Q];exact (hc i j hi hj).mono hw (by rw [hs];exact zb _) (fun b _ h=>h) (xtY U _)
   . have aa:M i=some m1:=by simpa [MSet,hi] using J
     obtain ⟨ae,g1,g2⟩:=hR.box i m1 aa;have hne:0<m1.cap->m1.b≠m.b:=fun h0 e=>hi (hR.inj i (.b id) m1 m aa hm h0 q e)
     exact ⟨ae,by rw [xc0 hb ac Q hi];exact g1,g2.mono (fun h0=>setRow_other w m.b m1.b c' (hne h0)) hw (by rw [hs];exact zb _) (fun b _ h=>h) g2.guard U⟩
 . intro i i' m1 m2 J Y c1 c2 he;by_cases hi:i=.b id<;>by_cases W:i'=.b id
   . rw [hi,W]
   . have g1:m1=m':=by simp [MSet,hi] at J;exact J.symm
     have g2:M i'=some m2:=by simpa [MSet,W] using Y
     rw [hi];exact hR.inj (.b id) i' m m2 hm g2 q c2 (by rw [<-he,g1,e1])
   . have g1:m2=m':=by simp [MSet,W] at Y;exact Y.symm
     have g2:M i=some m1:=by simpa [MSet,hi] using J
     rw [W];exact hR.inj i (.b id) m1 m g2 hm c1 q (by rw [he,g1,e1])
   . exact hR.inj i i' m1 m2 (by simpa [MSet,hi] using J) (by simpa [MSet,W] using Y) c1 c2 he
 . by_cases hi:i=.b id
   . have g1:m1=m':=by simp [MSet,hi] at J;exact J.symm
     exact .inl ⟨.b id,m,hm,q,by rw [g1,e1]⟩
   . rename_i h0;exact .inl ⟨i,m1,by simpa [MSet,hi] using J,h0,rfl⟩
theorem xEd (hR:HR w A M B H) {id:Nat} {m m':MB} {bx bx':Box} (Q:m.cap=0) (hm:M (.b id)=some m) (hb:H[id]?=some bx) (aa:isC bx.ty=false) (O:isC bx'.ty=false)
  (e2:m'.cap=m.cap) (e3:m'.sz=m.sz) (e5:m'=m\/m.ver<m'.ver) (f1:bx'.ver=m'.ver) (f2:bx'.sz=m'.sz) (f3:bx'.ty=m'.ty) (f5:bx'.xs=[]) :
  HR w A (MSet M (.b id) m') B (H.set id bx')/\MExt M (MSet M (.b id) m')/\Touch w w M (MSet M (.b id) m'):=by
 have J:MExt M (MSet M (.b id) m'):=xpH hm e5;have hc:∀ {p:Prop},0<m'.cap->p:=fun h=>absurd h (by omega)
 refine ⟨⟨?_,?_,hR.lt⟩,J,⟨fun _ _ _=>rfl,fun i m1 q h0=>?_⟩⟩
 . intro i m1 q;by_cases hi:i=.b id
   . subst hi;have:m1=m':=by simp [MSet] at q;exact q.symm
     subst this;exact ⟨bx',by rw [xba,zK (xcy hb)],⟨f1,f2,by rw [xaT O];exact f3,by rw [e2,Q];exact zP _,by rw [f5];exact zP _,by rw [f5];simp,hc,hc,hc,hc⟩⟩
   . have Y:M i=some m1:=by simpa [MSet,hi] using q
     obtain ⟨Z,g1,g2⟩:=hR.box i m1 Y;exact ⟨Z,by rw [xc0 hb aa O hi];exact g1,g2.mono (fun _=>rfl) (fun _ _ _=>rfl) (zb _) (fun b _ h=>h) g2.guard J⟩
 . intro i i' m1 m2 q U c1 c2 he;by_cases hi:i=.b id
   . have g1:m1=m':=by simp [MSet,hi] at q;exact q.symm
     rw [g1] at c1;exact hc c1
   . by_cases W:i'=.b id
     . have g1:m2=m':=by simp [MSet,W] at U;exact U.symm
       rw [g1] at c2;exact hc c2
     . exact hR.inj i i' m1 m2 (by simpa [MSet,hi] using q) (by simpa [MSet,W] using U) c1 c2 he
 . by_cases hi:i=.b id
   . have g1:m1=m':=by simp [MSet,hi] at q;exact q.symm
     rw [g1] at h0;exact hc h0
   . exact .inl ⟨i,m1,by simpa [MSet,hi] using q,h0,rfl⟩
def Writes (P:Program) (o:Oper) (ρc:Operand->Value) (w:World) (A:Nat->Prop) (M:Id->Option MB) (B:Nat) (x:AV) (H':List Box):Prop :=
 ∃ n w' A' M' v,(execOp ρc o).run P w=.ok n w'/\((n=.value v)\/(n=.skip/\v=undef))/\Below B w w'/\MExt M M'/\(∀ b,b<w.heap.size->(A' b↔A b))/\(∀ b,b<w.heap.size->¬ A b->w'.heap[b]?=w.heap[b]?)/\Touch w w' M M'/\HR w' A' M' B H'/\Rel w' A' M' v x
theorem xEf {v:Value} {x:AV} (h:Rel w A M v x) (hx:x.cells.all AV.one=true):∀ u,u∈v.cells.toList->u.oneCell'=true:=by
 intro u hu;obtain ⟨h1,h2⟩:=h.cells hx;obtain ⟨i,hi,rfl⟩:=zo.1 hu;have hi':i<x.cells.length:=by simp at hi;omega
 have:=h2 i hi';have e:v.cells.getD i undef=v.cells.toList[i]:=by simp at hi;simp [hi]
 rw [e] at this;refine this.oneCell ?_;rw [zH] at hx;exact hx _ (xat hi')
theorem xBP (hR:HR w A M B H) {o:Oper} {ρc:Operand->Value} {t:TypeId} {oa ov:Operand} {xa xv:AV} {H':List Box} (ho:o.op=.store t oa ov) (ha:Rel w A M (ρc oa) xa) (hv:Rel w A M (ρc ov) xv) (h:absStore P H t xa xv=some H') :
  Writes P o ρc w A M B (.tuple []) H':=by
 unfold absStore at h;split at h
 case h_2=>simp at h
 rename_i ti id ver i j ao;split at h
 case h_2=>simp at h
 rename_i bx ah;split at h
 case h_2=>simp at h
 rename_i e he;split at h
 case isFalse=>simp at h
 rename_i aq;obtain ⟨am,al,a0,O⟩:=aq;cases h;obtain ⟨m,hm,q,an⟩:=xmc hR ha ah;obtain ⟨ax,aw⟩:=xaz ah;have Q:0<m.cap:=by
  have:=q.fits;have:0<bx.xs.length:=List.length_pos_of_mem (List.mem_of_getElem? he);omega
 obtain ⟨c,h1,h2,h3⟩:=q.cells Q
 replace h1:=h1.plain (q.nomap (xau O))
 replace h3:∀ i j,i<bx.xs.length->j<m.sz->Rel w A (MP M bx.pm) (c.getD (i*m.sz+j) undef) ((bx.xs.getD i .top).cells.getD j .top):=fun i j hi hj=>by
  have:=h3 i j hi hj;rw [xao O,xa3 O] at this;exact this
 have hty':bx.ty=m.ty:=by rw [<-q.ty,xaT O]
 have ak:=xan al;have J:=xaC al;have aj:=xu1 hv J;have ai:(ρc ov).cells.size=ti.sz:=by have:=aj.1;simp at this;omega
 have hi:i<bx.xs.length:=by
  rcases zI i bx.xs.length with h'|h'
  . exact h'
  . simp [zy h'] at he
 have au:bx.xs.getD i .top=e:=by simp [z6,he]
 have az:=xan (q.ok e (List.mem_of_getElem? he));have hsz:=q.sz;have ap:i*m.sz+m.sz<=c.size:=by
  rw [h2];have:(i+1)*m.sz<=m.cap*m.sz:=Nat.mul_le_mul_right _ (Nat.le_trans hi q.fits);rw [Nat.add_mul,Nat.one_mul] at this;exact this
 have Z:i*m.sz+j+(ρc ov).cells.toList.length<=c.toList.length:=by simp;omega
 have U:(putCells e j ti.sz bx.sz xv).cells.length=m.sz/\(∀ k,k<m.sz->(putCells e j ti.sz bx.sz xv).cells.getD k .top=if j<=k/\k<j+ti.sz then xv.cells.getD (k - j) .top else e.cells.getD k .top)/\(putCells e j ti.sz bx.sz xv).cells.all AV.one=true:=by
  unfold putCells;split
  . rename_i hw;obtain ⟨rfl,hw⟩:=hw;exact ⟨by omega,fun k hk=>by rw [if_pos (by omega)];simp,J⟩
  . have ag:min j e.cells.length=j:=by omega
    refine ⟨by rw [xjb];simp;omega,fun k hk=>?_,?_⟩
    . simp only [xjb,zv,z6,zO,zr,ag];by_cases ab:k<j
      . simp [ab,List.getElem?_take,show ¬ j<=k by omega]
      . by_cases ac:k<j+ti.sz
        . simp [ab,ak,show k - j<ti.sz by omega,ac,show j<=k by omega]
        . simp only [ab,if_false,ak,show ¬ (k - j<ti.sz) by omega,ac,and_false,List.getElem?_drop]
          congr 2;omega
    . have h5:=xaC (q.ok e (List.mem_of_getElem? he));rw [zH] at h5 J;simp only [xjb,List.all_append,ze,zH];exact ⟨⟨fun x hx=>h5 x (List.mem_of_mem_take hx),J⟩,fun x hx=>h5 x (List.mem_of_mem_drop hx)⟩
 have af:=run_storeCells_at P m.b (i*m.sz+j) m.ty (ρc ov).cells.toList 0 c w h1 (by simp;omega) (xEf hv J)
 simp only [Nat.add_zero] at af;obtain ⟨g1,g2,g3,g4,gt,g5⟩:=xmI (m':=m) (bx':=⟨ver,bx.sz,bx.ty,bx.xs.set i (putCells e j ti.sz bx.sz xv),false,bx.pm&&xv.pure⟩) hR Q hm ax q O O am (c':=(xMc c.toList (i*m.sz+j) (ρc ov).cells.toList).toArray) rfl rfl rfl rfl (.inl rfl)
  (by rw [<-q.ver,<-aw]) hsz hty' rfl (by simpa using q.fits)
  (fun x hx=>by
   rcases List.mem_or_eq_of_mem_set hx with hx|rfl
   . exact q.ok x hx
   . simp only [AV.okElem,U.1,beq_self_eq_true,Bool.true_and];exact U.2.2)
  (by have:=xiC Z;simp at this |-;omega)
  (fun i' j' Y W=>by
   simp at Y;rw [xd9,xgx Z];have ad:(ρc ov).cells.toList.length=ti.sz:=by simpa using ai
   by_cases ae:i'=i
   . subst ae;have e1:(bx.xs.set i' (putCells e j ti.sz bx.sz xv)).getD i' .top=putCells e j ti.sz bx.sz xv:=by simp [z6,Y]
     rw [e1,U.2.1 j' W,ad];by_cases aa:j<=j'/\j'<j+ti.sz
     . rw [if_pos (by omega),if_pos aa,show i'*m.sz+j' - (i'*m.sz+j)=j' - j by omega]
       exact (aj.2 _ (by omega)).mp fun hp=>xeQ (xme (ze _ _▸hp).2) _
     . rw [if_neg (by omega),if_neg aa,xbO]
       have:=h3 i' j' Y W;rw [au] at this;exact this.mp_and
   . have e1:(bx.xs.set i (putCells e j ti.sz bx.sz xv)).getD i' .top=bx.xs.getD i' .top:=by simp [z6,List.getElem?_set,show ¬ i=i' from fun h=>ae h.symm]
     rw [e1,ad,if_neg,xbO]
     . exact (h3 i' j' Y W).mp_and
     . intro aa;rcases zI i' i with ar|ay
       . have:i'*m.sz+j'<i*m.sz:=xcz ar W;omega
       . have h6:(i+1)*m.sz<=i'*m.sz:=Nat.mul_le_mul_right _ (by omega)
         rw [Nat.add_mul,Nat.one_mul] at h6;omega)
 refine ⟨.skip,_,A,_,undef,?_,.inr ⟨rfl,rfl⟩,g4,g2,fun _ _=>Iff.rfl,g3,gt,g1,.tuple #[] [] rfl (by simp)⟩
 simp only [execOp,ho,an,Instr.storeAt,Instr.sureAddr,storeVar,Sem.run_bind,Sem.run_pure,Result.andThen_ok,xcX ao,ai,ne_eq,not_true,if_false];rw [af];rfl
end
end Go.Sim
namespace Go.Sim
open Go.RowKit
section
variable {P : Program} {w : World} {A : Nat -> Prop} {M : Id -> Option MB} {B : Nat} {H : List Box}
theorem xwk (hR:HR w A M B H) {sz:Nat} {v:Value} {x:AV} {ys:List AV} {pm:Bool} (hx:Rel w A M v x) (h:xLX H sz x=some (ys,pm)) :
  (ys=[]/\∃ a c,v=.slice a 0 c)\/∃ b o c,v=.slice (some ⟨b,o,none⟩) ys.length c/\(∀ y,y∈ys->y.okElem sz=true) /\
   ∀ i j,i<ys.length->j<sz->∃ u,w.cell? ⟨b,o+(i*sz+j),none⟩=some u/\Rel w A (MP M pm) u ((ys.getD i .top).cells.getD j .top):=by
 unfold xLX at h;split at h
 . simp only [z1,za] at h;obtain ⟨rfl,rfl⟩:=h;cases hx;exact .inl ⟨rfl,none,0,rfl⟩
 . split at h
   case isFalse=>simp at h
   rename_i hs;subst hs;simp only [z1,za] at h;obtain ⟨rfl,rfl⟩:=h;cases hx with
   | list0 a cap _=>exact .inl ⟨rfl,a,cap,rfl⟩
   | list b off cap _ _ val ha hb hne hcap hsz hc hr =>
    exact .inr ⟨b,off,cap,rfl,hsz,fun i j hi hj=>⟨val i j,by rw [<-Nat.add_assoc];exact hc i j hi hj,hr i j hi hj⟩⟩
 . rename_i id ver off len;split at h
   case h_2=>simp at h
   rename_i bx U;split at h
   case isFalse=>simp at h
   rename_i Y;obtain ⟨hsz,aa,O⟩:=Y;simp only [z1,za] at h;obtain ⟨rfl,rfl⟩:=h;obtain ⟨m,a,hm,q,Z,rfl,ha⟩:=xiv hR hx U;have Q:m.sz=sz:=by rw [<-q.sz,hsz]
   have J:((bx.xs.drop off).take len).length=len:=by simp;omega
   by_cases hz:len=0
   . subst hz;exact .inl ⟨by simp,a,_,rfl⟩
   . have W:=ha (by omega);subst W
     refine .inr ⟨m.b,off*m.sz,m.cap - off,by rw [J],fun y hy=>by rw [<-Q];exact q.ok y (List.mem_of_mem_drop (List.mem_of_mem_take hy)),fun i j hi hj=>?_⟩
     rw [J] at hi;rw [<-Q] at hj |-;have:=q.cell' (q.nomap (xau O)) (show off+i<bx.xs.length by omega) hj
     rw [xao O,xa3 O] at this;rw [Nat.add_mul,Nat.add_assoc] at this;have hg:((bx.xs.drop off).take len).getD i .top=bx.xs.getD (off+i) .top:=by
      simp [z6,List.getElem?_take,hi,List.getElem?_drop]
     rwa [hg]
 . simp at h
theorem xqS {t ty e:TypeId} {i:TypeInfo} (ht:P.underlying t=some (.slice e)) (hi:P.info? e=some i) (b:Option Addr) (len cap:Nat) (q:len<=cap) (a:Option Addr) (c:Nat) :
  (Builtin.append_ #[t,t] ty #[.slice b len cap,.slice a 0 c]).run P w=.ok (.slice b len cap) w:=by
 cases a<;>cases b<;>simp [Builtin.append_,run_underlying ht,sizeOf,typeInfo,hi,Builtin.lenOf,Builtin.firstCells,loadCells,loadCellsFrom,q,storeCells]
def xLL (w:World) (b o n:Nat):List Value:=(List.range n).map fun k=>(w.cell? ⟨b,o+k,none⟩).getD undef
theorem xfI (w:World) (b o n:Nat):(xLL w b o n).length=n:=by simp [xLL]
theorem xzr {b o n k:Nat} (hk:k<n):(xLL w b o n).getD k undef=(w.cell? ⟨b,o+k,none⟩).getD undef:=by
 simp [xLL,z6,hk]
theorem xw5 {k n sz:Nat} (hk:k<n*sz):k / sz<n:=Nat.div_lt_of_lt_mul (by rwa [Nat.mul_comm])
section src
variable {ys : List AV} {sz b o : Nat} (hsz : 0 < sz) (hs : ∀ i j, i < ys.length -> j < sz -> ∃ u, w.cell? ⟨b, o + (i * sz + j), none⟩ = some u /\ Rel w A M u ((ys.getD i .top).cells.getD j .top))
include hsz hs
theorem xAX {k:Nat} (hk:k<ys.length*sz):∃ u,w.cell? ⟨b,o+k,none⟩=some u/\Rel w A M u ((ys.getD (k / sz) .top).cells.getD (k % sz) .top):=by
 have:=hs (k / sz) (k % sz) (xw5 hk) (Nat.mod_lt _ hsz);rwa [Nat.mul_comm,Nat.div_add_mod] at this
theorem xsw (j:Nat) (u:Value) (h:(xLL w b o (ys.length*sz))[j]?=some u):w.cell? ((⟨b,o,none⟩:Addr).add j)=some u:=by
 have hj:j<ys.length*sz:=by
  rcases zI j (ys.length*sz) with h'|h'
  . exact h'
  . rw [zy (by rw [xfI];exact h')] at h;simp at h
 obtain ⟨u',hu,_⟩:=xAX hsz hs hj;rw [xfj,hu];simp [xLL,hj,hu] at h;rw [h]
omit hsz in
theorem xCp {i j:Nat} (hi:i<ys.length) (hj:j<sz):Rel w A M ((xLL w b o (ys.length*sz)).getD (i*sz+j) undef) ((ys.getD i .top).cells.getD j .top):=by
 obtain ⟨u,hu,hr⟩:=hs i j hi hj;rw [xzr (xcz hi hj),hu];exact hr
theorem xCo (q:∀ y,y∈ys->y.okElem sz=true):∀ u,u∈xLL w b o (ys.length*sz)->u.oneCell'=true:=by
 intro u hu;obtain ⟨k,hk,rfl⟩:=zo.1 hu;have hk':k<ys.length*sz:=by rwa [xfI] at hk
 obtain ⟨u',J,hr⟩:=xAX hsz hs hk';have e:(xLL w b o (ys.length*sz))[k]=u':=by simp [xLL,J]
 rw [e];have hi:=xw5 hk';have h1:=xaC (q _ (xat hi));have hl:=xan (q _ (xat hi));rw [zH] at h1;exact hr.oneCell (h1 _ (xat (by rw [hl];exact Nat.mod_lt _ hsz)))
end src
theorem xvk {xs ys:List AV} {c:List Value} {sz:Nat} {news:List Value} (hn:news.length=ys.length*sz)
  (Q:∀ i j,i<xs.length->j<sz->Rel w A M (c.getD (i*sz+j) undef) ((xs.getD i .top).cells.getD j .top))
  (O:∀ i j,i<ys.length->j<sz->Rel w A M (news.getD (i*sz+j) undef) ((ys.getD i .top).cells.getD j .top))
  {c':List Value} (h1:∀ k,k<xs.length*sz->c'.getD k undef=c.getD k undef) (h2:∀ k,k<ys.length*sz->c'.getD (xs.length*sz+k) undef=news.getD k undef) :
  ∀ i j,i<(xs++ys).length->j<sz->Rel w A M (c'.getD (i*sz+j) undef) (((xs++ys).getD i .top).cells.getD j .top):=by
 intro i j hi hj;by_cases q:i<xs.length
 . have e:(xs++ys).getD i .top=xs.getD i .top:=by simp [z6,zO,q]
   rw [e,h1 _ (xcz q hj)];exact Q i j q hj
 . have e:(xs++ys).getD i .top=ys.getD (i - xs.length) .top:=by simp [z6,zO,q]
   have J:i - xs.length<ys.length:=by simp at hi;omega
   have e2:i*sz+j=xs.length*sz+((i - xs.length)*sz+j):=by
    rw [<-Nat.add_assoc,<-Nat.add_mul,show xs.length+(i - xs.length)=i by omega]
   rw [e,e2,h2 _ (xcz J hj)];exact O _ j J hj
theorem xsL {xs ys:List AV} {sz:Nat} (hx:∀ x,x∈xs->x.okElem sz=true) (hy:∀ x,x∈ys->x.okElem sz=true):∀ x,x∈xs++ys->x.okElem sz=true:=fun x q=>by
 rcases zF.1 q with h|h
 . exact hx x h
 . exact hy x h
theorem HR.drew (hR:HR w A M B H):HR w.drew A M B H:=hR.grow ⟨rfl,rfl,rfl,zb _,fun _ _=>rfl⟩
theorem HR.ext {H':List Box} (hR:HR w A M B H) (h:∀ n,n<H.length->(∃ id m,id.base=n/\M id=some m)->H'[n]?=H[n]?):HR w A M B H' :=
 ⟨fun id m hm=>by
  obtain ⟨bx,h1,h2⟩:=hR.box id m hm;exact ⟨bx,by rw [xlx (h id.base (xlt h1) ⟨id,m,rfl,hm⟩)];exact h1,h2⟩,hR.inj,hR.lt⟩
theorem HR.append (hR:HR w A M B H) (l:List Box):HR w A M B (H++l) :=
 hR.ext fun n hn _=>zN hn
theorem HR.none_of_base (hR:HR w A M B H) {id:Id} (h:H.length<=id.base):M id=none:=by
 cases hm:M id with
 | none=>rfl
 | some m =>
  obtain ⟨bx,h1,_⟩:=hR.box id m hm;have:=xlt h1;omega
theorem HR.none_of_length (hR:HR w A M B H) {n:Nat} (h:H.length<=n):M (.b n)=none:=hR.none_of_base (id:=.b n) h
theorem HR.free_of_length (hR:HR w A M B H) {n:Nat} (h:H.length<=n):Free M n:=⟨hR.none_of_base (id:=.b n) h,fun i j=>hR.none_of_base (id:=.r n i j) h⟩
set_option maxHeartbeats 1000000 in
structure Mv (w:World) (A:Nat->Prop) (M:Id->Option MB) (w':World) (A':Nat->Prop) (M':Id->Option MB):Prop where
 size:w.heap.size<=w'.heap.size
 keep:∀ b,b<w.heap.size->¬ A b->w'.heap[b]?=w.heap[b]?
 less:∀ b,b<w.heap.size->A' b->A b
 more:∀ b,b<w.heap.size->A b->(∀ id m,M id=some m->0<m.cap->m.b≠b)->A' b
 ext:MExt M M'
 touch:Touch w w' M M'
theorem Mv.rel {w w':World} {A A':Nat->Prop} {M M':Id->Option MB} (h:Mv w A M w' A' M') {v:Value} {x:AV} (hr:Rel w A M v x):Rel w' A' M' v x :=
 hr.mono h.keep h.size h.less h.ext
theorem HR.virt {w:World} {A:Nat->Prop} {M:Id->Option MB} {B:Nat} {H:List Box} (hR:HR w A M B H) (sz:Nat) (ty:TypeId) (pm:Bool) :
  HR w A (MPut M H.length ⟨0,0,sz,0,rty ty⟩) B (H++[⟨0,sz,ty,[],false,pm⟩])/\Mv w A M w A (MPut M H.length ⟨0,0,sz,0,rty ty⟩)/\∀ a,Rel w A (MPut M H.length ⟨0,0,sz,0,rty ty⟩) (.slice a 0 0) (.osl H.length 0 0 0):=by
 have hn:Free M H.length:=hR.free_of_length (zb _);have O:MExt M (MPut M H.length ⟨0,0,sz,0,rty ty⟩):=xpG hn _;have q:∀ id m',MPut M H.length ⟨0,0,sz,0,rty ty⟩ id=some m'->0<m'.cap->M id=some m':=fun id m' hm h0=>by
  by_cases J:id=.b H.length
  . subst J;simp [MPut] at hm;subst hm;exact absurd h0 (by simp)
  . simpa [MPut,J] using hm
 refine ⟨⟨fun id m' Q=>?_,fun id id' m1 m2 h1 h2 c1 c2 he=>hR.inj id id' m1 m2 (q id m1 h1 c1) (q id' m2 h2 c2) c1 c2 he,hR.lt⟩,⟨zb _,fun _ _ _=>rfl,fun _ _ h=>h,fun _ _ h _=>h,O,⟨fun _ _ _=>rfl,fun id m' hm h0=>.inl ⟨id,m',q id m' hm h0,h0,rfl⟩⟩⟩,fun a=>?_⟩
 . by_cases J:id=.b H.length
   . subst J;have:m'=⟨0,0,sz,0,rty ty⟩:=by simp [MPut] at Q;exact Q.symm
     subst this;have hc:∀ {p:Prop},0<(0:Nat)->p:=fun h=>absurd h (by simp)
     exact ⟨⟨0,sz,ty,[],false,pm⟩,by simp [getB],rfl,rfl,rfl,zP _,zP _,fun x hx=>by simp at hx,hc,hc,hc,hc⟩
   . have U:M id=some m':=by simpa [MPut,J] using Q
     obtain ⟨bx,g1,g2⟩:=hR.box id m' U;exact ⟨bx,xug g1,g2.mono (fun _=>rfl) (fun _ _ _=>rfl) (zb _) (fun _ _ h=>h) g2.guard O⟩
 . exact .osl _ H.length 0 0 0 ⟨0,0,sz,0,rty ty⟩ (by simp [MPut]) (zb _) rfl fun _=>⟨by simp,a,by simp,fun h=>by simp at h⟩
structure ARuns (P:Program) (w:World) (t tt ty e:TypeId) (i:TypeInfo) (z v:Value) (n:Nat) (news:List Value):Prop where
 nil:(n:Int)<=9223372036854775807->n*i.bytes<=281474976710656->(Builtin.append_ #[t,tt] ty #[.slice none 0 0,v]).run P w =
  .ok (.slice (some ⟨w.heap.size,0,none⟩) n (grownCap w n 0 e)) (w.drew.alloc (.cells (news.toArray++Builtin.zeroCells z.cells (grownCap w n 0 e - n)) e))
 grow:∀ (b:Addr) (sLen sCap:Nat) (olds:List Value),olds.length=sLen*i.size->(∀ j u,olds[j]?=some u->w.cell? (b.add j)=some u)->sCap<sLen+n->((sLen+n:Nat):Int)<=9223372036854775807 ->
  Builtin.nextslicecap (sLen+n) sCap*i.bytes<=281474976710656->(Builtin.append_ #[t,tt] ty #[.slice (some b) sLen sCap,v]).run P w =
   .ok (.slice (some ⟨w.heap.size,0,none⟩) (sLen+n) (grownCap w (sLen+n) sCap e))
    (w.drew.alloc (.cells (olds.toArray++news.toArray++Builtin.zeroCells z.cells (grownCap w (sLen+n) sCap e - (sLen+n))) e))
 room:∀ (g sLen sCap:Nat) (cur:Array Value),w.heap[g]?=some (.cells cur e (0,0))->sLen+n<=sCap->sLen*i.size+news.length<=cur.size ->
  (Builtin.append_ #[t,tt] ty #[.slice (some ⟨g,0,none⟩) sLen sCap,v]).run P w =
   .ok (.slice (some ⟨g,0,none⟩) (sLen+n) sCap) (w.setRow g (cur.toList.take (sLen*i.size)++news++cur.toList.drop (sLen*i.size+news.length)).toArray)
def ASrc (P:Program) (w:World) (A:Nat->Prop) (M:Id->Option MB) (t tt ty e:TypeId) (sz:Nat) (v:Value) (ys:List AV) (pm:Bool):Prop :=
 (ys=[]/\∀ b len cap,len<=cap->(Builtin.append_ #[t,tt] ty #[.slice b len cap,v]).run P w=.ok (.slice b len cap) w) \/
 (0<ys.length/\(∀ y,y∈ys->y.okElem sz=true)/\∃ news:List Value,news.length=ys.length*sz /\
  (∀ i j,i<ys.length->j<sz->Rel w A (MP M pm) (news.getD (i*sz+j) undef) ((ys.getD i .top).cells.getD j .top)) /\
  ∀ i z,P.info? e=some i->i.zero=some z->i.size=sz->ARuns P w t tt ty e i z v ys.length news)
theorem xCC (hR:HR w A M B H) {t ty e:TypeId} {sz:Nat} (J:0<sz) (hu:P.underlying t=some (.slice e)) {i0:TypeInfo} (W:P.info? e=some i0) {v:Value} {x:AV} {ys:List AV} {pm:Bool} (hx:Rel w A M v x) (h:xLX H sz x=some (ys,pm)) :
  ASrc P w A M t t ty e sz v ys pm:=by
 rcases xwk hR hx h with ⟨he,a,cc,U⟩|⟨b,off,cc,U,Y,q⟩
 . subst U;exact .inl ⟨he,fun b len cap Q=>xqS hu W b len cap Q a cc⟩
 . subst U;rcases Nat.eq_zero_or_pos ys.length with O|O
   . rw [O];exact .inl ⟨zz O,fun b' len cap Q=>xqS hu W b' len cap Q _ cc⟩
   . refine .inr ⟨O,Y,xLL w b off (ys.length*sz),xfI _ _ _ _,fun i j hi hj=>xCp q hi hj,fun i z hi hz hs=>⟨fun h1 h2=>?_,fun b' sLen sCap olds h1 h2 h3 h4 h5=>?_,fun g sLen sCap cur h1 h2 h3=>?_⟩⟩
     . exact run_append_nil (P:=P) w t ty e i z hu hi hz ⟨b,off,none⟩ ys.length cc _ (by rw [xfI,hs]) (xsw J q) O h1 h2
     . exact run_append_grow (P:=P) w t ty e i z hu hi hz b' sLen sCap olds h1 h2 ⟨b,off,none⟩ ys.length cc _ (by rw [xfI,hs]) (xsw J q) h3 h4 h5
     . exact run_append_room (P:=P) w t ty e i hu hi g sLen sCap cur h1 ⟨b,off,none⟩ ys.length cc _ (by rw [xfI,hs]) (xsw J q) (xCo J q Y) h2 h3
theorem xrQ (w:World) (t u ty e:TypeId) (i:TypeInfo) (z:Value) (ht:P.underlying t=some (.slice e)) (hu:P.underlying u=some .string) (hi:P.info? e=some i) (hz:i.zero=some z) (s:ByteArray)
  (h0:0<s.size) (J:(s.size:Int)<=9223372036854775807) (q:s.size*i.bytes<=281474976710656) :
  (Builtin.append_ #[t,u] ty #[.slice none 0 0,.string s]).run P w =
   .ok (.slice (some ⟨w.heap.size,0,none⟩) s.size (grownCap w s.size 0 e)) (w.drew.alloc (.cells ((Lib.strCells s).toArray++Builtin.zeroCells z.cells (grownCap w s.size 0 e - s.size)) e)):=by
 have hn:s.size≠0:=by omega
 have h63':¬ (9223372036854775807<(s.size:Int)):=by omega
 have h48':¬ (281474976710656<Builtin.nextslicecap s.size 0*i.bytes):=by rw [nextslicecap_zero h0];omega
 have hf:=Lib.run_firstCells_string (P:=P) w.drew i.size s;simp [Builtin.append_,run_underlying ht,run_underlying hu,sizeOf,typeInfo,zeroValue,hi,hz,Builtin.lenOf,hn,h63',h48',Question.forced,run_firstCells_none,hf,newRow,grownCap]
theorem xrt {t u ty e:TypeId} {i:TypeInfo} (ht:P.underlying t=some (.slice e)) (hu:P.underlying u=some .string) (hi:P.info? e=some i) (b:Option Addr) (len cap:Nat) (q:len<=cap) (s:ByteArray) (h0:s.size=0) :
  (Builtin.append_ #[t,u] ty #[.slice b len cap,.string s]).run P w=.ok (.slice b len cap) w:=by
 have hf:=Lib.run_firstCells_string (P:=P) w i.size s;rw [h0] at hf;have he:Lib.strCells s=[]:=zz (by rw [Lib.strCells_length,h0])
 rw [he] at hf;cases b<;>simp [Builtin.append_,run_underlying ht,run_underlying hu,sizeOf,typeInfo,hi,Builtin.lenOf,h0,q,hf,storeCells]
theorem xFF {t tt ty e:TypeId} (hu:P.underlying t=some (.slice e)) (J:P.underlying tt=some .string) {i0:TypeInfo} (U:P.info? e=some i0) (s:ByteArray) :
  ASrc P w A M t tt ty e 1 (.string s) (s.data.toList.map fun (u:UInt8)=>.int .u8 u.toNat) true:=by
 have hsz:(s.data.toList.map fun (u:UInt8)=>AV.int .u8 u.toNat).length=s.size:=by rw [z8,Array.length_toList];rfl
 rcases Nat.eq_zero_or_pos s.size with q|q
 . exact .inl ⟨zz (by rw [hsz,q]),fun b len cap O=>xrt hu J U b len cap O s q⟩
 . refine .inr ⟨by rw [hsz];exact q,fun y hy=>?_,Lib.strCells s,by rw [Lib.strCells_length,hsz,Nat.mul_one],fun i j hi hj=>?_,fun i z hi hz hs=>⟨fun h1 h2=>?_,fun b' sLen sCap olds h1 h2 h3 h4 h5=>?_,fun g sLen sCap cur h1 h2 h3=>?_⟩⟩
   . obtain ⟨u,_,rfl⟩:=zJ.1 hy;rfl
   . have Q:j=0:=by omega
     subst Q;rw [hsz] at hi;have hi':i<s.data.toList.length:=by rw [Array.length_toList];exact hi
     simp only [Nat.mul_one,Nat.add_zero,z6,List.getElem?_map,zd hi',Option.map_some,zg];have hc:(Lib.strCells s)[i]?=some (.int .u8 (s.data.toList[i].toNat:Int)):=by
      simp [Lib.strCells,List.getElem?_map,zd hi']
     rw [hc];exact .int _ _
   . rw [hsz] at h1 h2 |-;exact xrQ w t tt ty e i z hu J hi hz s q h1 h2
   . rw [hsz] at h3 h4 h5 |-;exact Lib.run_append_grow_string (P:=P) w t tt ty e i z hu J hi hz b' sLen sCap olds h1 h2 s h3 h4 h5
   . rw [hsz] at h2 |-;rw [hs,Nat.mul_one,Lib.strCells_length] at h3 |-;exact Lib.run_append_room_string (P:=P) w t tt ty e i hu J hi hs g sLen sCap cur h1 s h2 h3
theorem xpu (hR:HR w A M B H) {t tt ty e:TypeId} {te:TI} (Z:xLk P e=some te) (J:0<te.sz) (hu:P.underlying t=some (.slice e)) {i0:TypeInfo} (O:P.info? e=some i0) {v:Value} {x:AV} {ys:List AV} {pm:Bool} (hx:Rel w A M v x) (h:absSrc P H t tt e te.sz x=some (ys,pm)) :
  ASrc P w A M t tt ty e te.sz v ys pm:=by
 unfold absSrc at h;split at h
 . rename_i Q;subst Q;exact xCC hR J hu O hx h
 . split at h
   case h_2=>simp at h
   rename_i tj ab s Y q;split at h
   case h_2=>simp at h
   rename_i U aa;split at h
   case isFalse=>simp at h
   rename_i hsz;rw [Z] at q;obtain rfl:=(z1 _ _).mp q;simp only [z1,za] at h;obtain ⟨rfl,rfl⟩:=h;have W:P.underlying tt=some .string:=by rw [xj8 Y,U]
   cases hx with
   | str s =>
    rw [hsz];exact xFF hu W O s
theorem xBc (hR:HR w A M B H) (hB:B<=w.heap.size) {o:Oper} {ρc:Operand->Value} {c:Call} {t tt e:TypeId} {te:TI} {os ox:Operand} {xs r:AV} {ys:List AV} {pm:Bool} {H':List Box} (ho:o.op=.call c) (b9:c.callee=.builtin .append)
  (ch:c.argTypes.toList=[t,tt]) (has:c.args.toList=[os,ox]) (hs:Rel w A M (ρc os) xs) (b7:xLk P e=some te) (hu:P.underlying t=some (.slice e))
  (an:∀ v,v=ρc ox->ASrc P w A M t tt o.type e te.sz v ys pm) (h:absApp H e te xs ys pm=some (r,H')) :
  Writes P o ρc w A M B r H':=by
 unfold absApp at h;obtain ⟨i,z,az,ck,a2,am,a6,bf,_⟩:=xaS b7;have ag:isC e=false:=xkJ b7;have hts':c.argTypes=#[t,tt]:=by apply Array.ext';simpa using ch
 have has':c.args=#[os,ox]:=by apply Array.ext';simpa using has
 have Z:∀ v w',(Builtin.append_ #[t,tt] o.type #[ρc os,ρc ox]).run P w=.ok v w'->(execOp ρc o).run P w=.ok (.value v) w':=by
  intro v w' hv;simp [execOp,ho,resolve,b9,hts',has',invoke,builtin,hv,Go.resolve]
 replace an:=an _ rfl
 split at h
 ·
  have ac:ρc os=.slice none 0 0:=by
   generalize ρc os=v at hs;cases hs;rfl
  rw [ac] at Z;split at h
  case isFalse=>simp at h
  rename_i bi;obtain ⟨bv,a9,bn,aa⟩:=bi;simp only [z1,za] at h;obtain ⟨rfl,rfl⟩:=h;rcases an with ⟨rfl,a4⟩|⟨b0,ae,news,U,au,Q⟩
  . obtain ⟨g1,g2,g3⟩:=hR.virt te.sz e pm;exact ⟨_,w,A,_,.slice none 0 0,Z _ _ (a4 none 0 0 (zb _)),.inl rfl,Below.refl _ _,g2.ext,fun _ _=>Iff.rfl,fun _ _ _=>rfl,g2.touch,g1,g3 none⟩
  have cm:ys.length<=4611686018427387904:=bn;have ay:Rel w A M z te.zero:=by rw [bf];exact xce w A M z
  obtain ⟨cb,_⟩:=ay.cells (xaC aa);have bz:=xan aa;have q:=(Q i z az a2 am.symm).nil (by omega) (by rw [<-a6];omega)
  have ad:=grownCap_ge w ys.length 0 e;have af:=grownCap_le_maxLen w ys.length 0 e (by unfold maxLen;omega)
  generalize hcap:grownCap w ys.length 0 e=cap at q ad af;have cl:H.length<(H++[(⟨0,te.sz,e,ys,false,pm⟩:Box)]).length:=by simp
  have hR':HR w.drew A M B (H++[⟨0,te.sz,e,ys,false,pm⟩]):=hR.drew.append _;have al:(Builtin.zeroCells z.cells (cap - ys.length)).size=(cap - ys.length)*te.sz:=by rw [size_zeroCells];congr 1;omega
  have ce:=xpb (bx:=⟨0,te.sz,e,ys,false,pm⟩) (nid:=H.length) (c:=news.toArray++Builtin.zeroCells z.cells (cap - ys.length)) (cap:=cap) hR' (by simpa using hB) (hR.free_of_length (zb _)) ag (by simp) af
   (by rw [Array.size_append,List.size_toArray,U,al,<-Nat.add_mul];congr 1;omega) ad ae
   (fun i' j ab hj=>by
    have hk:i'*te.sz+j<ys.length*te.sz:=xcz ab hj;have e1:(news.toArray++Builtin.zeroCells z.cells (cap - ys.length)).getD (i'*te.sz+j) undef=news.getD (i'*te.sz+j) undef:=by
     simp only [zt,Array.getElem?_append,List.size_toArray,U,hk,if_true,List.getElem?_toArray,z6]
    rw [e1];exact (au _ _ ab hj).grow ⟨rfl,rfl,rfl,zb _,fun _ _=>rfl⟩)
  obtain ⟨s1,s2,s3,s4,s5⟩:=ce;have J:Below w.heap.size w (w.drew.alloc (.cells (news.toArray++Builtin.zeroCells z.cells (cap - ys.length)) e)):=((Below.refl _ _).drew).alloc (by simp) _
  exact ⟨_,_,_,_,_,Z _ _ q,.inl rfl,J.mono hB,s1,s2,fun b hb _=>J.block b hb,.of_new J (fun id m' ao=>by
   by_cases b2:id=.b H.length
   . subst b2;exact s3.2 m' ao
   . rw [s3.1 id b2] at ao;exact .inl ao),s4,.osl _ H.length 0 0 ys.length _ s5 (zb _) rfl fun _=>⟨by simpa using ad,some ⟨w.heap.size,0,none⟩,by simp,fun _=>by simp⟩⟩
 . rename_i id ver off len;split at h
   case h_2=>simp at h
   rename_i bx b3;split at h
   case isFalse=>simp at h
   rename_i bi;obtain ⟨rfl,ak,bt,hsz,bu,bv,a9,bn,aa⟩:=bi;simp only [z1,za] at h;obtain ⟨rfl,rfl⟩:=h;have ap:isC bx.ty=false:=by rw [bu];exact ag
   obtain ⟨m,a,hm,W,bc,ac,ha⟩:=xiv hR hs b3;obtain ⟨a8,cf⟩:=xaz b3;simp only [Nat.sub_zero,zG] at ac bc;have ah:m.sz=te.sz:=by rw [<-W.sz,hsz]
   have bh:m.ty=e:=by rw [<-W.ty,xaT ap,bu]
   have be:m.ver=ver:=by rw [<-W.ver,cf]
   have cj:len+ys.length<=4611686018427387904:=bn;have a0:∀ (c1:Array Value) (cap:Nat),c1.size=cap*te.sz->len+ys.length<=cap->cap<=maxLen->(∀ y,y∈ys->y.okElem te.sz=true) ->
     (∀ i j,i<(bx.xs++ys).length->j<te.sz->Rel w A (MP M (bx.pm&&pm)) (c1.getD (i*te.sz+j) undef) (((bx.xs++ys).getD i .top).cells.getD j .top)) ->
     (Builtin.append_ #[t,tt] o.type #[ρc os,ρc ox]).run P w=.ok (.slice (some ⟨w.heap.size,0,none⟩) (len+ys.length) cap) (w.drew.alloc (.cells c1 e)) ->
     Writes P o ρc w A M B (.osl id (ver+1) 0 (len+ys.length)) (H.set id ⟨ver+1,te.sz,e,bx.xs++ys,false,bx.pm&&pm⟩):=by
    intro c1 cap ax ad af ae b4 q;have J:Below w.heap.size w (w.drew.alloc (.cells c1 e)):=((Below.refl _ _).drew).alloc (by simp) _
    let m1:MB:=⟨w.heap.size,ver+1,te.sz,cap,e⟩;have a3:MExt M (MSet M id m1):=xpH hm (.inr (by simp [m1,be]))
    have hA:∀ b,b<w.heap.size->(APut A w.heap.size false b->A b):=fun b hb h=>by
     rcases h with h|⟨h,_⟩
     . exact h
     . omega
    have bb:∀ u x,Rel w A (MP M (bx.pm&&pm)) u x->Rel (w.drew.alloc (.cells c1 e)) (APut A w.heap.size false) (MP (MSet M id m1) (bx.pm&&pm)) u x:=fun u x hr=>hr.mono (fun b hb _=>J.block b hb) J.size hA (xtY a3 _)
    refine ⟨_,_,APut A w.heap.size false,MSet M id m1,_,Z _ _ q,.inl rfl,J.mono hB,a3,fun b hb=>⟨hA b hb,.inl⟩,fun b hb _=>J.block b hb,.of_new J (fun i m' ao=>?_),⟨?_,?_,?_⟩,.osl _ id (ver+1) 0 (len+ys.length) m1 (by simp [MSet]) (zb _) rfl fun _=>⟨by simpa [m1] using ad,some ⟨w.heap.size,0,none⟩,by simp [m1],fun _=>by simp [m1]⟩⟩
    . by_cases aw:i=id
      . subst aw;have:m'=m1:=by simp [MSet] at ao;exact ao.symm
        subst this;exact .inr (zb _)
      . exact .inl (by simpa [MSet,aw] using ao)
    . intro i' m2 aj;by_cases aw:i'=id
      . subst aw;have:m2=m1:=by simp [MSet] at aj;exact aj.symm
        subst this;refine ⟨_,by rw [xba,zK (xcy a8)],⟨rfl,rfl,xaT ag,af,by simp [m1];omega,xsL (fun x hx=>by have:=W.ok x hx;rwa [ah] at this) ae,fun _=>by simpa [m1] using hB,fun _=>by simp [m1],fun _=>⟨c1,.of (xau ag) (by simpa [m1] using heap_alloc_new w.drew (.cells c1 e)),by simpa [m1] using ax,?_⟩,fun _=>⟨fun _=>.inr ⟨rfl,rfl⟩,fun _=>rfl⟩⟩⟩
        intro i j hi hj;rw [xao ag,xa3 ag];exact bb _ _ (b4 i j hi hj)
      . have ar:M i'=some m2:=by simpa [MSet,aw] using aj
        obtain ⟨bg,g1,g2⟩:=hR.box i' m2 ar;exact ⟨bg,by rw [xc0 a8 ap ag aw];exact g1,g2.mono (fun h0=>J.block _ (g2.lt h0)) (fun b hb _=>J.block b hb) J.size hA (fun h0=>⟨fun hf=>.inl ((g2.guard h0).1 hf),fun hf=>(g2.guard h0).2 (hA _ (g2.lt h0) hf)⟩) a3⟩
    . intro i' a5 m2 m3 aj ar ca bw he;by_cases ab:i'=id<;>by_cases aq:a5=id
      . rw [ab,aq]
      . exfalso;have g1:m2=m1:=by simp [MSet,ab] at aj;exact aj.symm
        have g2:M a5=some m3:=by simpa [MSet,aq] using ar
        obtain ⟨bg,_,g3⟩:=hR.box a5 m3 g2;have:=g3.lt bw;rw [<-he,g1] at this;simp [m1] at this
      . exfalso;have g1:m3=m1:=by simp [MSet,aq] at ar;exact ar.symm
        have g2:M i'=some m2:=by simpa [MSet,ab] using aj
        obtain ⟨bg,_,g3⟩:=hR.box i' m2 g2;have:=g3.lt ca;rw [he,g1] at this;simp [m1] at this
      . exact hR.inj i' a5 m2 m3 (by simpa [MSet,ab] using aj) (by simpa [MSet,aq] using ar) ca bw he
    . intro b hb;rcases hb with hb|⟨rfl,_⟩
      . have:=hR.lt b hb;simp;omega
      . simp
   rcases Nat.eq_zero_or_pos m.cap with O|O
   ·
    have b1:bx.xs=[]:=zz (by omega)
    have cg:len=0:=by omega
    subst cg;rw [O] at ac;rcases an with ⟨rfl,a4⟩|⟨b0,ae,news,U,au,Q⟩
    . obtain ⟨g1,g2,g3⟩:=xEd (m':=⟨m.b,ver+1,m.sz,m.cap,m.ty⟩) (bx':=⟨ver+1,te.sz,e,bx.xs++[],false,bx.pm&&pm⟩) hR O hm a8 ap ag rfl rfl (.inr (by simp [be])) rfl ah.symm bh.symm (by simp [b1])
      exact ⟨_,_,A,_,_,Z _ _ (by rw [ac];simpa using a4 a 0 0 (zb _)),.inl rfl,Below.refl _ _,g2,fun _ _=>Iff.rfl,fun _ _ _=>rfl,g3,g1,.osl _ id (ver+1) 0 0 ⟨m.b,ver+1,m.sz,m.cap,m.ty⟩ (by simp [MSet]) (zb _) rfl fun _=>⟨by simp,a,by simp [O],fun h=>by simp at h;omega⟩⟩
    . have ay:Rel w A M z te.zero:=by rw [bf];exact xce w A M z
      obtain ⟨cb,_⟩:=ay.cells (xaC aa);have bz:=xan aa;have ad:=grownCap_ge w (0+ys.length) 0 e;have af:=grownCap_le_maxLen w (0+ys.length) 0 e (by unfold maxLen;omega)
      have al:(Builtin.zeroCells z.cells (grownCap w (0+ys.length) 0 e - ys.length)).size=(grownCap w (0+ys.length) 0 e - ys.length)*te.sz:=by rw [size_zeroCells];congr 1;omega
      refine a0 (news.toArray++Builtin.zeroCells z.cells (grownCap w (0+ys.length) 0 e - ys.length)) (grownCap w (0+ys.length) 0 e) (by rw [Array.size_append,List.size_toArray,U,al,<-Nat.add_mul];congr 1;omega) ad af ae (fun i' j ab hj=>?_) ?_
      . rw [b1,zT] at ab |-;have hk:i'*te.sz+j<ys.length*te.sz:=xcz ab hj;have e1:(news.toArray++Builtin.zeroCells z.cells (grownCap w (0+ys.length) 0 e - ys.length)).getD (i'*te.sz+j) undef=news.getD (i'*te.sz+j) undef:=by
         simp only [zt,Array.getElem?_append,List.size_toArray,U,hk,if_true,List.getElem?_toArray,z6]
        rw [e1];exact (au _ _ ab hj).mp_and'
      . rw [ac];cases a with
        | none =>
         have q:=(Q i z az a2 am.symm).nil (by omega) (by rw [<-a6];simp at a9;omega)
         simpa using q
        | some a =>
         have q:=(Q i z az a2 am.symm).grow a 0 0 [] (by simp) (by simp) (by omega) (by omega) (growslice_fits (by omega) (by rw [<-a6];exact a9))
         simpa using q
   have ci:=ha O;subst ci;simp only [Nat.zero_mul] at ac;obtain ⟨c0,h1,h2,h3⟩:=W.cells O
   replace h1:=h1.plain (W.nomap (xau ap))
   replace h3:∀ i j,i<bx.xs.length->j<m.sz->Rel w A (MP M bx.pm) (c0.getD (i*m.sz+j) undef) ((bx.xs.getD i .top).cells.getD j .top):=fun i j hi hj=>by
    have:=h3 i j hi hj;rw [xao ap,xa3 ap] at this;exact this
   have co:A m.b:=(W.guard O).1 bt;rw [ah] at h2 h3;rw [bh] at h1;have ai:∀ (news:List Value),news.length=ys.length*te.sz->(∀ y,y∈ys->y.okElem te.sz=true)->len+ys.length<=m.cap ->
     (∀ i j,i<ys.length->j<te.sz->Rel w A (MP M pm) (news.getD (i*te.sz+j) undef) ((ys.getD i .top).cells.getD j .top)) ->
     (Builtin.append_ #[t,tt] o.type #[ρc os,ρc ox]).run P w=.ok (.slice (some ⟨m.b,0,none⟩) (len+ys.length) m.cap) (w.setRow m.b (xMc c0.toList (len*te.sz) news).toArray) ->
     Writes P o ρc w A M B (.osl id (ver+1) 0 (len+ys.length)) (H.set id ⟨ver+1,te.sz,e,bx.xs++ys,false,bx.pm&&pm⟩):=by
    intro news U ae Y b5 q;have a1:len*te.sz+news.length<=c0.toList.length:=by
     have cc:c0.toList.length=m.cap*te.sz:=by simpa using h2
     rw [U,<-Nat.add_mul,cc];exact Nat.mul_le_mul_right _ Y
    obtain ⟨g1,g2,g3,g4,gt,g5⟩:=xmI (m':=⟨m.b,ver+1,m.sz,m.cap,m.ty⟩) (bx':=⟨ver+1,te.sz,e,bx.xs++ys,false,bx.pm&&pm⟩) hR O hm a8 W ap ag bt (c':=(xMc c0.toList (len*te.sz) news).toArray) rfl rfl rfl rfl (.inr (by simp [be]))
     rfl ah.symm bh.symm rfl (by simp;omega) (by rw [ah];exact xsL (fun x hx=>by rw [<-ah];exact W.ok x hx) ae)
     (by have:=xiC a1;simp at this |-;rw [this,h2,ah])
     (by
      rw [ah];intro i j hi hj;rw [xd9];refine xvk (M:=MP M (bx.pm&&pm)) (c:=c0.toList) U (fun i j hi hj=>by rw [xbO];exact (h3 i j hi hj).mp_and) (fun i j hi hj=>(b5 i j hi hj).mp_and') (fun k hk=>?_) (fun k hk=>?_) i j hi hj
      . rw [xgx a1,if_neg (by rw [ak];omega)]
      . rw [xgx a1,if_pos (by rw [ak,U];omega),<-ak,show len*te.sz+k - len*te.sz=k by omega])
    exact ⟨_,_,A,_,_,Z _ _ q,.inl rfl,g4,g2,fun _ _=>Iff.rfl,g3,gt,g1,.osl _ id (ver+1) 0 (len+ys.length) ⟨m.b,ver+1,m.sz,m.cap,m.ty⟩ (by simp [MSet]) (zb _) rfl fun _=>⟨by simpa using Y,some ⟨m.b,0,none⟩,by simp,fun _=>by simp⟩⟩
   have bo:len<=m.cap:=bc;rcases an with ⟨rfl,a4⟩|⟨b0,ae,news,U,au,Q⟩
   . refine ai [] (by simp) (by simp) (by simpa using bo) (by simp) ?_
     have cd:(xMc c0.toList (len*te.sz) []).toArray=c0:=by simp [xMc]
     have bj:w.setRow m.b c0=w:=setRow_self w m.b c0 e (0,0) h1;rw [cd,bj,ac];simpa using a4 (some ⟨m.b,0,none⟩) len m.cap bo
   . by_cases Y:len+ys.length<=m.cap
     . refine ai news (U) ae Y (fun i j hi hj=>au _ _ hi hj) ?_
       have bp:len*i.size+news.length<=c0.size:=by
        rw [U,<-am,<-Nat.add_mul,h2];exact Nat.mul_le_mul_right _ Y
       have:=(Q i z az a2 am.symm).room m.b len m.cap c0 h1 Y bp;rw [ac,this];rw [<-am];rfl
     . have bk:∀ j u,(c0.toList.take (len*te.sz))[j]?=some u->w.cell? ((⟨m.b,0,none⟩:Addr).add j)=some u:=by
        intro j u ba;rw [List.getElem?_take] at ba;split at ba
        . rw [xfj,zG];simp [World.cell?,h1];simpa using ba
        . simp at ba
       have a7:(c0.toList.take (len*te.sz)).length=len*te.sz:=by
        simp only [zr,Array.length_toList,h2];have:len*te.sz<=m.cap*te.sz:=Nat.mul_le_mul_right _ bo;omega
       have q:=(Q i z az a2 am.symm).grow ⟨m.b,0,none⟩ len m.cap (c0.toList.take (len*te.sz)) (by rw [a7,am]) bk (by omega) (by omega) (growslice_fits (by omega) (by rw [<-a6];exact a9))
       have ad:=grownCap_ge w (len+ys.length) m.cap e;have af:=grownCap_le_maxLen w (len+ys.length) m.cap e (by unfold maxLen;omega)
       generalize hcap:grownCap w (len+ys.length) m.cap e=cap at q ad af;have ay:Rel w A M z te.zero:=by rw [bf];exact xce w A M z
       obtain ⟨cb,_⟩:=ay.cells (xaC aa);have bz:=xan aa;have al:(Builtin.zeroCells z.cells (cap - (len+ys.length))).size=(cap - (len+ys.length))*te.sz:=by rw [size_zeroCells];congr 1;omega
       generalize bq:(c0.toList.take (len*te.sz)).toArray++news.toArray++Builtin.zeroCells z.cells (cap - (len+ys.length))=c1 at q;have ax:c1.size=cap*te.sz:=by
        rw [<-bq];simp only [Array.size_append,List.size_toArray,a7,U,al,<-Nat.add_mul];congr 1;omega
       have b6:∀ k,k<bx.xs.length*te.sz->c1.toList.getD k undef=c0.toList.getD k undef:=by
        intro k hk;rw [<-ak] at hk;rw [<-bq];simp only [Array.toList_append,zv,z6,zO,a7,hk,if_true,List.getElem?_take]
       have b8:∀ k,k<ys.length*te.sz->c1.toList.getD (bx.xs.length*te.sz+k) undef=news.getD k undef:=by
        intro k hk;rw [<-ak,<-bq];simp only [Array.toList_append,zv,z6,zO,a7,show ¬ len*te.sz+k<len*te.sz by omega,if_false,U,show len*te.sz+k - len*te.sz=k by omega,hk,if_true]
       refine a0 c1 cap ax ad af ae (fun i j hi hj=>?_) (by rw [ac];exact q)
       rw [<-xbO];exact xvk (M:=MP M (bx.pm&&pm)) (c:=c0.toList) (U) (fun i j hi hj=>by rw [xbO];exact (h3 i j hi hj).mp_and) (fun i j hi hj=>(au _ _ hi hj).mp_and') b6 b8 i j hi hj
 . simp at h
theorem xs9 (hR:HR w A M B H) (hB:B<=w.heap.size) {o:Oper} {ρc:Operand->Value} {c:Call} {t tt:TypeId} {os ox:Operand} {xs xx r:AV} {H':List Box} (ho:o.op=.call c) (O:c.callee=.builtin .append)
  (Y:c.argTypes.toList=[t,tt]) (has:c.args.toList=[os,ox]) (hs:Rel w A M (ρc os) xs) (hx:Rel w A M (ρc ox) xx) (h:xMo P H t tt xs xx=some (r,H')) :
  Writes P o ρc w A M B r H':=by
 unfold xMo at h;split at h
 case h_2=>simp at h
 rename_i ti W;split at h
 case h_2=>simp at h
 rename_i e hd;split at h
 case h_2=>simp at h
 rename_i te q;split at h
 case h_2=>simp at h
 rename_i ys pm Q;have hu:P.underlying t=some (.slice e):=by rw [xj8 W,hd]
 have J:0<te.sz:=by
  unfold absApp at h;split at h
  . split at h
    case isFalse=>simp at h
    rename_i hc;exact hc.1
  . split at h
    case h_2=>simp at h
    split at h
    case isFalse=>simp at h
    rename_i hc;exact hc.2.2.2.2.2.1
  . simp at h
 obtain ⟨i,z,U,_⟩:=xaS q;exact xBc hR hB ho O Y has hs q hu (fun v hv=>by subst hv;exact xpu hR q J hu U hx Q) h
theorem xrX {z:Array Value} {n k:Nat} (hk:k<n*z.size) (hz:0<z.size):(Builtin.zeroCells z n).getD k undef=z.getD (k % z.size) undef:=by
 have hm:k % z.size<z.size:=Nat.mod_lt _ hz;simp [Builtin.zeroCells,zt,hk,hm]
theorem xBh (hR:HR w A M B H) {o:Oper} {ρc:Operand->Value} {c:Call} {t:TypeId} {ox:Operand} {xx:AV} {H':List Box} (ho:o.op=.call c) (an:c.callee=.builtin .clear)
  (a3:c.argTypes.toList=[t]) (has:c.args.toList=[ox]) (hx:Rel w A M (ρc ox) xx) (h:absClear P H t xx=some H'):Writes P o ρc w A M B (.tuple []) H':=by
 unfold absClear at h;split at h
 case h_2=>simp at h
 rename_i ti aw;split at h
 case h_2=>simp at h
 rename_i e hd;split at h
 case h_2=>simp at h
 rename_i te a2;split at h
 case h_2=>simp at h
 rename_i id ver off len;split at h
 case h_2=>simp at h
 rename_i bx aj;split at h
 case isFalse=>simp at h
 rename_i ay;obtain ⟨aq,hsz,a8,J,bc,U⟩:=ay;cases h;have hu:P.underlying t=some (.slice e):=by rw [xj8 aw,hd]
 obtain ⟨i,z,ar,ba,a0,be,a9,ag,_⟩:=xaS a2;have hts':c.argTypes=#[t]:=by apply Array.ext';simpa using a3
 have has':c.args=#[ox]:=by apply Array.ext';simpa using has
 have ab:∀ v w',(Builtin.clear_ #[t] o.type #[ρc ox]).run P w=.ok v w'->(execOp ρc o).run P w=.ok (.value v) w':=by
  intro v w' hv;simp [execOp,ho,resolve,an,hts',has',invoke,builtin,hv,Go.resolve]
 obtain ⟨m,a,hm,q,a7,ah,ha⟩:=xiv hR hx aj;obtain ⟨Q,a1⟩:=xaz aj;have ae:m.sz=te.sz:=by rw [<-q.sz,hsz]
 rcases Nat.eq_zero_or_pos len with rfl|au
 . have he:(⟨ver,bx.sz,bx.ty,bx.xs.take off++(List.replicate 0 te.zero++bx.xs.drop (off+0)),false,bx.pm⟩:Box)=bx:=by
    cases bx;simp_all
   have Q:H[id]?=some bx:=Q;have am:H.set id bx=H:=by
    apply List.ext_getElem?;intro k;by_cases hk:id=k
    . subst hk;rw [Q,zK];rcases zI id H.length with h'|h'
      . exact h'
      . rw [zy h'] at Q;simp at Q
    . rw [zW hk]
   rw [he,am];have W:(Builtin.clear_ #[t] o.type #[ρc ox]).run P w=.ok (.tuple #[]) w:=by
    rw [ah];cases a<;>simp [Builtin.clear_,run_underlying hu]
   exact ⟨_,w,A,M,.tuple #[],ab _ _ W,.inl rfl,Below.refl _ _,MExt.refl _,fun _ _=>Iff.rfl,fun _ _ _=>rfl,Touch.of_new (Below.refl _ _) (fun id m hm=>.inl hm),hR,.tuple #[] [] rfl (by simp)⟩
 . have ak:off<m.cap:=by have:=q.fits;omega
   have aa:0<m.cap:=by omega
   have a4:=ha ak;subst a4;obtain ⟨cc,h1,h2,h3⟩:=q.cells aa
   replace h1:=h1.plain (q.nomap (xau U))
   replace h3:∀ i j,i<bx.xs.length->j<m.sz->Rel w A (MP M bx.pm) (cc.getD (i*m.sz+j) undef) ((bx.xs.getD i .top).cells.getD j .top):=fun i j hi hj=>by
    have:=h3 i j hi hj;rw [xao U,xa3 U] at this;exact this
   have hty':bx.ty=m.ty:=by rw [<-q.ty,xaT U]
   have ap:Rel w A M z te.zero:=by rw [ag];exact xce w A M z
   obtain ⟨a6,ax⟩:=ap.cells (xaC J);have bb:=xan J;have Z:z.cells.size=m.sz:=by omega
   have ac:(Builtin.zeroCells z.cells len).toList.length=len*m.sz:=by simp [size_zeroCells,Z]
   have O:off*m.sz+(Builtin.zeroCells z.cells len).toList.length<=cc.toList.length:=by
    rw [ac,<-Nat.add_mul,Array.length_toList,h2];exact Nat.mul_le_mul_right _ (by have:=q.fits;omega)
   have al:∀ u,u∈(Builtin.zeroCells z.cells len).toList->u.oneCell'=true:=fun u hu=>by
    obtain ⟨k,hk,rfl⟩:=zo.1 hu;rw [ac] at hk;have ao:0<z.cells.size:=by
     rcases Nat.eq_zero_or_pos z.cells.size with h0|h0
     . rw [<-Z,h0] at hk;simp at hk
     . exact h0
    have hg:=xrX (z:=z.cells) (n:=len) (k:=k) (by rw [Z];exact hk) ao
    have e1:(Builtin.zeroCells z.cells len).toList[k]'(by rw [ac];exact hk)=z.cells.getD (k % z.cells.size) undef:=by
     rw [<-hg];simp [zt,size_zeroCells,Z,hk]
    rw [e1];have ad:k % z.cells.size<te.zero.cells.length:=by rw [<-a6];exact Nat.mod_lt _ ao
    refine (ax _ ad).oneCell ?_;have:=xaC J;rw [zH] at this;exact this _ (xat ad)
   have ai:=run_storeCells_at P m.b (off*m.sz) m.ty (Builtin.zeroCells z.cells len).toList 0 cc w h1 (by simpa using O) al
   simp only [Nat.add_zero] at ai;have af:(bx.xs.take off).length=off:=by simp;omega
   obtain ⟨g1,g2,g3,g4,gt,g5⟩:=xmI (m':=m) (bx':=⟨ver,bx.sz,bx.ty,bx.xs.take off++(List.replicate len te.zero++bx.xs.drop (off+len)),false,bx.pm⟩) hR aa hm Q q U U aq (c':=(xMc cc.toList (off*m.sz) (Builtin.zeroCells z.cells len).toList).toArray) rfl rfl rfl rfl (.inl rfl)
    (by rw [<-q.ver,<-a1]) q.sz hty' rfl (by have:=q.fits;simp;omega)
    (fun x hx=>by
     rcases zF.1 hx with hx|hx
     . exact q.ok x (List.mem_of_mem_take hx)
     . rcases zF.1 hx with hx|hx
       . rw [(List.mem_replicate.1 hx).2,ae];exact J
       . exact q.ok x (List.mem_of_mem_drop hx))
    (by have:=xiC O;simp at this |-;omega)
    (fun i' j' a5 Y=>by
     have hi'':i'<bx.xs.length:=by simp at a5;omega
     rw [xd9,xgx O,ac];by_cases c1:i'<off
     . have e1:(bx.xs.take off++(List.replicate len te.zero++bx.xs.drop (off+len))).getD i' .top=bx.xs.getD i' .top:=by
        simp [z6,zO,af,c1,List.getElem?_take,hi'']
       have:i'*m.sz+j'<off*m.sz:=xcz c1 Y;rw [if_neg (by omega),xbO,e1]
       exact h3 i' j' hi'' Y
     . by_cases c2:i'<off+len
       . have e1:(bx.xs.take off++(List.replicate len te.zero++bx.xs.drop (off+len))).getD i' .top=(List.replicate len te.zero).getD (i' - off) .top:=by
          simp [z6,zO,af,c1,show i' - off<len by omega]
         have p1:off*m.sz<=i'*m.sz:=Nat.mul_le_mul_right _ (by omega)
         have p2:i'*m.sz+j'<(off+len)*m.sz:=xcz c2 Y;rw [Nat.add_mul] at p2;rw [if_pos (by omega),e1]
         have p3:i'*m.sz+j' - off*m.sz=(i' - off)*m.sz+j':=by rw [Nat.sub_mul];omega
         rw [p3,xbO];have az:(i' - off)*m.sz+j'<len*m.sz:=xcz (by omega) Y
         have:=xoT (w:=w) (A:=A) (M:=MP M bx.pm) (z:=z) (x:=te.zero) (n:=len) (sz:=te.sz) (by rw [ag];exact xce w A _ z) J (i:=i' - off) (j:=j') (by omega) (by omega) (c:=Builtin.zeroCells z.cells len) (by rw [size_zeroCells,Z,<-ae];exact az)
          (fun k hk=>xrX (by rw [size_zeroCells] at hk;exact hk) (by omega))
         rw [ae];exact this
       . have e1:(bx.xs.take off++(List.replicate len te.zero++bx.xs.drop (off+len))).getD i' .top=bx.xs.getD i' .top:=by
          simp only [z6,zO,af,c1,if_false,List.length_replicate,show ¬ i' - off<len by omega,List.getElem?_drop]
          congr 2;omega
         have p1:(off+len)*m.sz<=i'*m.sz:=Nat.mul_le_mul_right _ (by omega)
         rw [Nat.add_mul] at p1;rw [if_neg (by omega),xbO,e1]
         exact h3 i' j' hi'' Y)
   have W:(Builtin.clear_ #[t] o.type #[ρc ox]).run P w=.ok (.tuple #[]) (w.setRow m.b (xMc cc.toList (off*m.sz) (Builtin.zeroCells z.cells len).toList).toArray):=by
    obtain ⟨n,rfl⟩:∃ n,len=n+1:=⟨len - 1,by omega⟩
    have hzr':(zeroValue e).run P w=.ok z w:=by simp [zeroValue,typeInfo,ar,a0]
    rw [ah];simp only [Builtin.clear_,List.getElem?_toArray,zX,Sem.run_bind,run_underlying hu,Result.andThen_ok,hzr',ai];rfl
   exact ⟨_,_,A,_,.tuple #[],ab _ _ W,.inl rfl,g4,g2,fun _ _=>Iff.rfl,g3,gt,g1,.tuple #[] [] rfl (by simp)⟩
theorem HR.rebuild (hR:HR w A M B H) {w':World} {A':Nat->Prop} {M':Id->Option MB} {H':List Box} (S:Nat->Prop)
  (hH:∀ k,¬ S k->k<H.length->H'[k]?=H[k]?) (hM:∀ j:Id,¬ S j.base->M' j=M j)
  (q:∀ (j:Id) m,¬ S j.base->M j=some m->0<m.cap->w'.heap[m.b]?=w.heap[m.b]?/\(A m.b->A' m.b))
  (hw:∀ b,b<w.heap.size->¬ A b->w'.heap[b]?=w.heap[b]?) (hs:w.heap.size<=w'.heap.size) (hA:∀ b,b<w.heap.size->A' b->A b) (Q:MExt M M')
  (O:∀ (j:Id) m,S j.base->M' j=some m->∃ bx,getB H' j=some bx/\BoxAt w' A' M' B j m bx)
  (J:∀ (j:Id) m j' m',S j.base->M' j=some m->M' j'=some m'->0<m.cap->0<m'.cap->m.b=m'.b->j=j')
  (W:∀ b,A' b->b<w'.heap.size):HR w' A' M' B H':=by
 refine ⟨fun j m hm=>?_,fun j j' m m' h1 h2 c1 c2 he=>?_,W⟩
 . by_cases hj:S j.base
   . exact O j m hj hm
   . rw [hM j hj] at hm;obtain ⟨bx,g1,g2⟩:=hR.box j m hm;refine ⟨bx,by rw [xlx (hH _ hj (xlt g1))];exact g1,g2.mono (fun h0=>(q j m hj hm h0).1) hw hs hA (fun h0=>?_) Q⟩
     rw [g2.guard h0];exact ⟨(q j m hj hm h0).2,hA _ (g2.lt h0)⟩
 . by_cases hj:S j.base
   . exact J j m j' m' hj h1 h2 c1 c2 he
   . by_cases U:S j'.base
     . exact (J j' m' j m U h2 h1 c2 c1 he.symm).symm
     . rw [hM j hj] at h1;rw [hM j' U] at h2;exact hR.inj j j' m m' h1 h2 c1 c2 he
theorem xpK {e v:AV} {j sz:Nat} (hj:j<sz) (hl:e.cells.length=sz) (hv:v.cells=[v]):(putCells e j 1 sz v).cells.length=sz/\∀ k,k<sz->(putCells e j 1 sz v).cells.getD k .top=if k=j then v else e.cells.getD k .top:=by
 unfold putCells;split
 . rename_i hw;obtain ⟨rfl,rfl⟩:=hw;refine ⟨by rw [hv];rfl,fun k hk=>?_⟩
   have:k=0:=by omega
   subst this;rw [if_pos rfl,hv];rfl
 . have q:min j e.cells.length=j:=by omega
   refine ⟨by rw [xjb,hv];simp;omega,fun k hk=>?_⟩
   simp only [xjb,hv,zv,z6,zO,zr,q];by_cases O:k<j
   . simp [O,List.getElem?_take,show ¬ k=j by omega]
   . by_cases J:k=j
     . subst J;simp
     . simp only [O,if_false,zD,List.length_nil,show ¬ (k - j<1) by omega,J,List.getElem?_drop]
       congr 2;omega
theorem xnT {e v:AV} {j sz:Nat} (hj:j<sz) (he:e.okElem sz=true) (hv:v.cells=[v]) (ho:v.one=true):(putCells e j 1 sz v).okElem sz=true:=by
 have hl:=xan he;obtain ⟨h1,h2⟩:=xpK hj hl hv;have h3:=xaC he;simp only [AV.okElem,h1,beq_self_eq_true,Bool.true_and];rw [zH] at h3 |-;intro y hy;obtain ⟨k,hk,rfl⟩:=xjv hy;rw [h1] at hk;rw [h2 k hk];split
 . exact ho
 . exact h3 _ (xat (by omega))
def xLt (bx:Box) (ver i j:Nat) (v:AV):Box:=⟨ver,bx.sz,bx.ty,bx.xs.set i (putCells (bx.xs.getD i .top) j 1 bx.sz v),bx.frz,bx.pm⟩
theorem xtC {bx:Box} {ver i j:Nat} {v:AV} (hi:i<bx.xs.length) (hj:j<bx.sz) (hl:(bx.xs.getD i .top).cells.length=bx.sz) (hv:v.cells=[v]) {i' k:Nat} (hk:k<bx.sz) :
  ((xLt bx ver i j v).xs.getD i' .top).cells.getD k .top=if i'=i/\k=j then v else (bx.xs.getD i' .top).cells.getD k .top:=by
 have hp:=xpK (e:=bx.xs.getD i .top) (v:=v) hj hl hv;unfold xLt;by_cases q:i'=i
 . subst q;have e1:(bx.xs.set i' (putCells (bx.xs.getD i' .top) j 1 bx.sz v)).getD i' .top=putCells (bx.xs.getD i' .top) j 1 bx.sz v:=by simp [z6,hi]
   rw [e1,hp.2 k hk];simp
 . have e1:(bx.xs.set i (putCells (bx.xs.getD i .top) j 1 bx.sz v)).getD i' .top=bx.xs.getD i' .top:=by simp [z6,List.getElem?_set,show ¬ i=i' from fun h=>q h.symm]
   rw [e1,if_neg (fun h=>q h.1)]
theorem HR.detach (hR:HR w A M B H) {n i j sz:Nat} {ys:List AV} {m:MB} {bx:Box} (hb:H[n]?=some bx) (ax:xLm bx.ty j=true) (hx:(bx.xs.getD i .top).cells.getD j .top=.list sz ys) (hj:j<bx.sz) (an:(bx.xs.getD i .top).cells.length=bx.sz) (hm:M (.r n i j)=some m) :
  let M':Id->Option MB:=fun x=>if x=.b H.length then some ⟨m.b,0,m.sz,m.cap,m.ty⟩ else if x=.r n i j then some ⟨0,m.ver+1,0,0,m.ty⟩ else M x
  HR w A M' B (H.set n (xLt bx bx.ver i j (.int .i64 ys.length))++[⟨0,sz,rowTy bx.ty,ys,bx.frz,true⟩])/\Mv w A M w A M'/\∀ v,Rel w A M v (xMp n i j (.list sz ys))->Rel w A M' v (.osl H.length 0 0 ys.length):=by
 intro M';obtain ⟨rb,g1,g2⟩:=hR.box _ m hm;have ab:isC bx.ty=true:=xeC ax;obtain ⟨g4,g5,g6,g7⟩:=xf8 hb ab g1;rw [hx] at g7;subst g7;have ai:2*ys.length=m.ver:=g2.ver;have hsz:sz=m.sz:=g2.sz;have ah:rowTy bx.ty=m.ty:=by have:=g2.ty;rw [xyQ,xaT (xbF _)] at this;exact this
 have hn:n<H.length:=xcy hb;have ad:=hR.free_of_length (n:=H.length) (zb _);have az:(Id.r n i j)≠.b H.length:=fun e=>by cases e
 have W:M' (.b H.length)=some ⟨m.b,0,m.sz,m.cap,m.ty⟩:=by simp [M']
 have Y:M' (.r n i j)=some ⟨0,m.ver+1,0,0,m.ty⟩:=by simp [M']
 have Q:∀ x:Id,x≠.b H.length->x≠.r n i j->M' x=M x:=fun x h1 h2=>by simp [M',h1,h2]
 have aj:∀ x m0,M x=some m0->x≠.b H.length:=fun x m0 h e=>by rw [e,ad.1] at h;cases h
 have O:MExt M M':=fun x m0 h=>by
  by_cases q:x=.r n i j
  . subst q;rw [hm] at h;cases h;exact ⟨_,Y,.inr (Nat.lt_succ_self _)⟩
  . exact ⟨m0,by rw [Q x (aj x m0 h) q];exact h,.inl rfl⟩
 have Z:∀ x m',M' x=some m'->0<m'.cap->∃ y m0,M y=some m0/\m0.b=m'.b/\m0.cap=m'.cap/\(x=.b H.length/\y=.r n i j\/x=y/\y≠.r n i j):=fun x m' h h0=>by
  by_cases h1:x=.b H.length
  . subst h1;rw [W] at h;cases h;exact ⟨_,m,hm,rfl,rfl,.inl ⟨rfl,rfl⟩⟩
  . by_cases h2:x=.r n i j
    . subst h2;rw [Y] at h;cases h;exact absurd h0 (by simp)
    . rw [Q x h1 h2] at h;exact ⟨x,m',h,rfl,rfl,.inr ⟨rfl,h2⟩⟩
 have ak:∀ (x:Id) m1 x' m2,M' x=some m1->M' x'=some m2->0<m1.cap->0<m2.cap->m1.b=m2.b->x=x':=fun x m1 x' m2 h1 h2 c1 c2 he=>by
  obtain ⟨y,n1,a1,a2,a3,a4⟩:=Z x m1 h1 c1;obtain ⟨y',n2,b1,b2,b3,b4⟩:=Z x' m2 h2 c2;have:=hR.inj y y' n1 n2 a1 b1 (by omega) (by omega) (by rw [a2,b2,he])
  subst this;rcases a4 with ⟨rfl,e1⟩|⟨rfl,e1⟩<;>rcases b4 with ⟨rfl,e2⟩|⟨rfl,e2⟩
  . rfl
  . exact absurd e1 e2
  . exact absurd e2 e1
  . rfl
 have aq:∀ {v:Value} {x:AV},Rel w A M v x->Rel w A M' v x:=fun h=>h.mono (fun _ _ _=>rfl) (zb _) (fun _ _ h=>h) O
 have af:(H.set n (xLt bx bx.ver i j (.int .i64 ys.length))++[⟨0,sz,rowTy bx.ty,ys,bx.frz,true⟩])[n]?=some (xLt bx bx.ver i j (.int .i64 ys.length)):=by
  rw [zN (by simpa using hn),zK hn]
 have J:(xLt bx bx.ver i j (.int .i64 ys.length)).xs.length=bx.xs.length:=by simp [xLt]
 have U:∀ i' k,k<bx.sz->((xLt bx bx.ver i j (.int .i64 ys.length)).xs.getD i' .top).cells.getD k .top=if i'=i/\k=j then .int .i64 ys.length else (bx.xs.getD i' .top).cells.getD k .top:=fun i' k hk=>xtC g6 hj an rfl hk
 have ae:∀ k,xLm bx.ty k=true->k=j:=fun k hk=>by
  have hc:=xeC hk;unfold xLm at hk g4;rw [hc] at hk g4;rw [zf hk,zf g4]
 refine ⟨hR.rebuild (fun k=>k=n\/k=H.length) (fun k hk au=>?_) (fun x q=>Q x (fun e=>q (.inr (by rw [e];rfl))) fun e=>q (.inl (by rw [e];rfl))) (fun _ _ _ _ _=>⟨rfl,fun h=>h⟩) (fun _ _ _=>rfl) (zb _) (fun _ _ h=>h) O (fun x m' hS q=>?_) (fun x m1 x' m2 _ h1 h2 c1 c2 he=>ak x m1 x' m2 h1 h2 c1 c2 he) hR.lt,
  ⟨zb _,fun _ _ _=>rfl,fun _ _ h=>h,fun _ _ h _=>h,O,⟨fun _ _ _=>rfl,fun x m' h h0=>?_⟩⟩,fun v hv=>?_⟩
 . rw [zN (by simpa using au),zW (fun e=>hk (.inl e.symm))]
 . by_cases h1:x=.b H.length
   ·
    subst h1;rw [W] at q;cases q;have ag:isC (rowTy bx.ty)=false:=xbF _;refine ⟨⟨0,sz,rowTy bx.ty,ys,bx.frz,true⟩,by rw [xba,List.getElem?_append_right (by simp)];simp,rfl,hsz,by rw [xaT ag];exact ah,g2.capm,g2.fits,g2.ok,g2.low,g2.lt,fun h0=>?_,fun h0=>g2.guard h0⟩
    obtain ⟨c,c1,c2,c3⟩:=g2.cells h0;refine ⟨c,c1,c2,fun i' j' ac ap=>?_⟩
    have h4:=c3 i' j' ac ap;rw [xao (t:=(xLN bx (.list sz ys)).ty) (xbF _),xa3 (bx:=xLN bx (.list sz ys)) (xbF _)] at h4;rw [xao ag,xa3 ag];exact h4
   . by_cases h2:x=.r n i j
     ·
      subst h2;rw [Y] at q;cases q;have ay:∃ rb,getB (H.set n (xLt bx bx.ver i j (.int .i64 ys.length))++[⟨0,sz,rowTy bx.ty,ys,bx.frz,true⟩]) (.r n i j)=some rb/\rb=⟨2*ys.length+1,0,rowTy bx.ty,[],bx.frz,true⟩:=by
       refine ⟨_,?_,rfl⟩;rw [xdi af ab g4 g5 (by rw [J];exact g6),U i j hj,if_pos ⟨rfl,rfl⟩]
       simp [xLN,rowLen,xLt]
      obtain ⟨rb,r1,rfl⟩:=ay;have hc:∀ {p:Prop},0<(0:Nat)->p:=fun h=>absurd h (by simp)
      exact ⟨_,r1,by simp only;omega,rfl,by rw [xaT (xbF _)];exact ah,zP _,zP _,fun x hx=>by simp at hx,hc,hc,hc,hc⟩
     . have aa:x.base=n:=by
        rcases hS with h|h
        . exact h
        . rw [Q x h1 h2] at q;rw [hR.none_of_base (by rw [h];exact zb _)] at q;cases q
       rw [Q x h1 h2] at q;obtain ⟨bx',k1,k2⟩:=hR.box x m' q;cases x with
       | r n' i' j' =>
        simp only [Id.base] at aa;subst aa;have k3:getB (H.set n' (xLt bx bx.ver i j (.int .i64 ys.length))++[⟨0,sz,rowTy bx.ty,ys,bx.frz,true⟩]) (.r n' i' j')=some bx':=by
         obtain ⟨e2,e3,e4,e5⟩:=xf8 hb ab k1;have ao:=ae j' e2;subst ao;have ar:i'≠i:=fun e=>h2 (by rw [e])
         rw [xdi af ab e2 e3 (by rw [J];exact e4),U i' j' hj,if_neg (fun e=>ar e.1),e5]
         rfl
        exact ⟨bx',k3,k2.mono (fun _=>rfl) (fun _ _ _=>rfl) (zb _) (fun _ _ h=>h) k2.guard O⟩
       | b n' =>
        simp only [Id.base] at aa;subst aa;rw [xba,hb] at k1;cases k1;have k4:=k2.mono (w':=w) (fun _=>rfl) (fun _ _ _=>rfl) (zb _) (fun _ _ h=>h) k2.guard O
        refine ⟨_,af,k4.ver,k4.sz,k4.ty,k4.capm,by rw [J];exact k4.fits,fun y hy=>?_,k4.low,k4.lt,fun h0=>?_,k4.guard⟩
        . rcases List.mem_or_eq_of_mem_set hy with hy|rfl
          . exact k4.ok y hy
          . rw [<-k4.sz];exact xnT hj (by rw [k4.sz];exact k4.ok _ (xat g6)) rfl rfl
        . obtain ⟨c,c1,c2,c3⟩:=k4.cells h0;refine ⟨c,by rw [J];exact c1,c2,fun i' k ac hk=>?_⟩
          rw [J] at ac;have h4:=c3 i' k ac hk;have al:MV M' (xLt bx bx.ver i j (.int .i64 ys.length)) k=MV M' bx k:=rfl;have aw:xLK n' i' k (xLt bx bx.ver i j (.int .i64 ys.length)).ty (((xLt bx bx.ver i j (.int .i64 ys.length)).xs.getD i' .top).cells.getD k .top)=xLK n' i' k bx.ty ((bx.xs.getD i' .top).cells.getD k .top):=by
           rw [U i' k (by rw [k4.sz];exact hk)]
           split
           . rename_i am;obtain ⟨rfl,rfl⟩:=am;show xLK n' i' k bx.ty _=_;unfold xLK;rw [g4,hx];rfl
           . rfl
          simp only [Id.base];rw [al,aw];exact h4
 . obtain ⟨y,m0,a1,a2,a3,_⟩:=Z x m' h h0;exact .inl ⟨y,m0,a1,by omega,a2.symm⟩
 . obtain ⟨m1,b1,b2,b3,b4⟩:=Rel.osl_inv hv;rw [hm] at b1;cases b1;obtain ⟨e1,a,e2,e3⟩:=b4 ai;exact .osl v (.b H.length) 0 0 ys.length _ W (zb _) b3 fun _=>⟨e1,a,e2,e3⟩
def deadLen:AV->Option Nat
 | .int _ l=>some l.toNat
 | _=>none
def absAdopt (P:Program) (H:List Box) (t:TypeId) (a v:AV):Option (List Box) :=
 match xLk P t,a,v with
 | some ti,.own (.b n) ver i j,.osl (.b id) ver2 off len=>match xLo H (.b n) ver,xLo H (.b id) ver2 with
  | some bx,some b2=>match deadLen ((bx.xs.getD i .top).cells.getD j .top) with
   | some l0=>if ti.sz=1/\bx.frz=false/\xLm bx.ty j=true/\bx.pm=true/\j<bx.sz/\i<bx.xs.length/\(bx.xs.getD i .top).cells.length=bx.sz /\
     b2.frz=false/\b2.pm=true/\isC b2.ty=false/\b2.ty=rowTy bx.ty/\off=0/\len=b2.xs.length/\l0<len then
    some ((H.set id ⟨ver2+1,b2.sz,b2.ty,[],false,true⟩).set n (xLt bx ver i j (.list b2.sz b2.xs))) else none
   | none=>none
  | _,_=>none
 | _,_,_=>none
theorem xBb (hR:HR w A M B H) {o:Oper} {ρc:Operand->Value} {t:TypeId} {oa ov:Operand} {xa xv:AV} {H':List Box} (ho:o.op=.store t oa ov) (ha:Rel w A M (ρc oa) xa) (hv:Rel w A M (ρc ov) xv) (h:absAdopt P H t xa xv=some H') :
  Writes P o ρc w A M B (.tuple []) H':=by
 unfold absAdopt at h;split at h
 case h_2=>simp at h
 rename_i ti n ver i j id Q off len bt;split at h
 case h_2=>simp at h
 rename_i bx b2 az aq;split at h
 case h_2=>simp at h
 rename_i l0 Z;split at h
 case isFalse=>simp at h
 rename_i bz;obtain ⟨b8,ba,W,b9,am,hi,bn,bc,a7,aa,bi,rfl,rfl,cd⟩:=bz;cases h;obtain ⟨m,hm,q,bq⟩:=xmc hR ha az;obtain ⟨m2,a2,an,O,b6,a9,ce⟩:=xiv hR hv aq;obtain ⟨aj,bf⟩:=xaz az;obtain ⟨ai,ar⟩:=xaz aq;rw [xba] at aj ai;have hne:id≠n:=fun e=>by
  subst e;rw [aj] at ai;cases ai;have:=xeC W;rw [aa] at this;cases this
 have U:0<m.cap:=by have:=q.fits;omega
 obtain ⟨c,h1,h2,h3⟩:=q.cells U;have be:xLn m.ty=false:=q.nomap (xb5 az)
 replace h1:=h1.plain be
 have hsz:=q.sz;have b5:j<m.sz:=by omega
 have a0:(ρc ov).cells=#[ρc ov]:=by rw [a9];rfl
 have a5:(ρc ov).cells.size=1:=by rw [a0];rfl
 have bu:i*m.sz+m.sz<=c.size:=by
  rw [h2];have:(i+1)*m.sz<=m.cap*m.sz:=Nat.mul_le_mul_right _ (Nat.le_trans hi q.fits);rw [Nat.add_mul,Nat.one_mul] at this;exact this
 have ap:i*m.sz+j+(ρc ov).cells.toList.length<=c.toList.length:=by simp [a5];omega
 have ax:=run_storeCells_at P m.b (i*m.sz+j) m.ty (ρc ov).cells.toList 0 c w h1 (by simp [a5];omega) (fun u hu=>by
  rw [a0] at hu;simp only [zu] at hu;subst hu;rw [a9];rfl)
 simp only [Nat.add_zero] at ax;have b7:A m.b:=(q.guard U).1 ba;generalize a6:(xMc c.toList (i*m.sz+j) (ρc ov).cells.toList).toArray=c' at ax;have b0:c'.size=m.cap*m.sz:=by rw [<-a6];have:=xiC ap;simp at this |-;omega
 have bp:∀ k,c'.getD k undef=if k=i*m.sz+j then ρc ov else c.getD k undef:=fun k=>by
  rw [<-a6,xd9,xgx ap,a0];by_cases hk:k=i*m.sz+j
  . subst hk;simp
  . rw [if_neg (by simp;omega),if_neg hk,xbO]
 have hs:(w.setRow m.b c').heap.size=w.heap.size:=by simp [World.setRow]
 have hw:∀ b,b<w.heap.size->¬ A b->(w.setRow m.b c').heap[b]?=w.heap[b]?:=fun b _ hb=>setRow_other w m.b b c' fun e=>hb (e▸b7)
 let M':Id->Option MB:=fun x=>if x=.b id then some ⟨m2.b,m2.ver+1,m2.sz,0,m2.ty⟩ else if x=.r n i j then some ⟨m2.b,2*b2.xs.length,m2.sz,m2.cap,m2.ty⟩ else M x
 have ah:M' (.b id)=some ⟨m2.b,m2.ver+1,m2.sz,0,m2.ty⟩:=by simp [M']
 have ag:M' (.r n i j)=some ⟨m2.b,2*b2.xs.length,m2.sz,m2.cap,m2.ty⟩:=by simp [M']
 have ab:∀ x:Id,x≠.b id->x≠.r n i j->M' x=M x:=fun x h1 h2=>by simp [M',h1,h2]
 have ca:∀ m0,M (.r n i j)=some m0->m0.cap=0/\m0.ver<2*b2.xs.length->m0.ver<2*b2.xs.length:=fun _ _ h=>h.2
 have bb:∀ m0,M (.r n i j)=some m0->m0.ver<2*b2.xs.length:=fun m0 h0=>by
  obtain ⟨rb,k1,k2⟩:=hR.box _ m0 h0;obtain ⟨k4,k5,k6,k7⟩:=xf8 aj (xeC W) k1;have k8:=k2.ver;rw [k7] at k8;unfold deadLen at Z;split at Z
  . rename_i kk l hl;simp only [z1] at Z;rw [hl] at k8;simp only [xLN,rowLen] at k8;omega
  . simp at Z
 have Y:MExt M M':=fun x m0 h0=>by
  by_cases e1:x=.b id
  . subst e1;rw [an] at h0;cases h0;exact ⟨_,ah,.inr (Nat.lt_succ_self _)⟩
  . by_cases e2:x=.r n i j
    . subst e2;exact ⟨_,ag,.inr (bb m0 h0)⟩
    . exact ⟨m0,by rw [ab x e1 e2];exact h0,.inl rfl⟩
 have ak:∀ x m',M' x=some m'->0<m'.cap->∃ y m0,M y=some m0/\m0.b=m'.b/\m0.cap=m'.cap/\(x=.r n i j/\y=.b id\/x=y/\y≠.b id/\y≠.r n i j):=fun x m' h h0=>by
  by_cases e1:x=.b id
  . subst e1;rw [ah] at h;cases h;exact absurd h0 (by simp)
  . by_cases e2:x=.r n i j
    . subst e2;rw [ag] at h;cases h;exact ⟨_,m2,an,rfl,rfl,.inl ⟨rfl,rfl⟩⟩
    . rw [ab x e1 e2] at h;exact ⟨x,m',h,rfl,rfl,.inr ⟨rfl,e1,e2⟩⟩
 have bh:∀ (x:Id) m1 x' m2,M' x=some m1->M' x'=some m2->0<m1.cap->0<m2.cap->m1.b=m2.b->x=x':=fun x m1 x' m2 h1 h2 c1 c2 he=>by
  obtain ⟨y,n1,a1,a2,a3,a4⟩:=ak x m1 h1 c1;obtain ⟨y',n2,b1,b2,b3,b4⟩:=ak x' m2 h2 c2;have:=hR.inj y y' n1 n2 a1 b1 (by omega) (by omega) (by rw [a2,b2,he])
  subst this;rcases a4 with ⟨rfl,e1⟩|⟨rfl,e1,_⟩<;>rcases b4 with ⟨rfl,e2⟩|⟨rfl,e2,_⟩
  . rfl
  . exact absurd e1 e2
  . exact absurd e2 e1
  . rfl
 have ae:∀ (x:Id) m0,x≠.b n->M x=some m0->0<m0.cap->(w.setRow m.b c').heap[m0.b]?=w.heap[m0.b]?:=fun x m0 hx h0 c0=>setRow_other w m.b m0.b c' fun e=>hx (hR.inj x (.b n) m0 m h0 hm c0 U e)
 have hn:n<H.length:=xcy aj;have bw:id<H.length:=xcy ai;have ay:((H.set id ⟨Q+1,b2.sz,b2.ty,[],false,true⟩).set n (xLt bx ver i j (.list b2.sz b2.xs)))[n]?=some (xLt bx ver i j (.list b2.sz b2.xs)):=zK (by simpa using hn)
 have bg:((H.set id ⟨Q+1,b2.sz,b2.ty,[],false,true⟩).set n (xLt bx ver i j (.list b2.sz b2.xs)))[id]?=some ⟨Q+1,b2.sz,b2.ty,[],false,true⟩:=by
  rw [zW (Ne.symm hne),zK bw]
 have ad:(xLt bx ver i j (.list b2.sz b2.xs)).xs.length=bx.xs.length:=by simp [xLt]
 have ac:∀ i' k,k<bx.sz->((xLt bx ver i j (.list b2.sz b2.xs)).xs.getD i' .top).cells.getD k .top=if i'=i/\k=j then .list b2.sz b2.xs else (bx.xs.getD i' .top).cells.getD k .top:=fun i' k hk=>xtC hi am bn rfl hk
 have aw:∀ k,xLm bx.ty k=true->k=j:=fun k hk=>by
  have hc:=xeC hk;unfold xLm at hk W;rw [hc] at hk W;rw [zf hk,zf W]
 have hR':HR (w.setRow m.b c') A M' B ((H.set id ⟨Q+1,b2.sz,b2.ty,[],false,true⟩).set n (xLt bx ver i j (.list b2.sz b2.xs))):=by
  refine hR.rebuild (fun k=>k=n\/k=id) (fun k hk cb=>?_) (fun x J=>ab x (fun e=>J (.inr (by rw [e];rfl))) fun e=>J (.inl (by rw [e];rfl))) (fun x m0 J h0 c0=>⟨ae x m0 (fun e=>J (.inl (by rw [e];rfl))) h0 c0,fun h=>h⟩) hw (by rw [hs];exact zb _) (fun _ _ h=>h) Y (fun x m' hS J=>?_) (fun x m1 x' m2 _ h1 h2 c1 c2 he=>bh x m1 x' m2 h1 h2 c1 c2 he) (fun b hb=>by rw [hs];exact hR.lt b hb)
  . rw [zW (fun e=>hk (.inl e.symm)),zW (fun e=>hk (.inr e.symm))]
  . by_cases e1:x=.b id
    ·
     subst e1;rw [ah] at J;cases J;have hc:∀ {p:Prop},0<(0:Nat)->p:=fun h=>absurd h (by simp)
     exact ⟨(⟨Q+1,b2.sz,b2.ty,[],false,true⟩:Box),bg,by simp only;rw [<-O.ver,ar],O.sz,O.ty,zP _,zP _,fun x hx=>by simp at hx,hc,hc,hc,hc⟩
    . by_cases e2:x=.r n i j
      ·
       subst e2;rw [ag] at J;cases J;have bj:getB ((H.set id ⟨Q+1,b2.sz,b2.ty,[],false,true⟩).set n (xLt bx ver i j (.list b2.sz b2.xs))) (.r n i j)=some ⟨2*b2.xs.length,b2.sz,rowTy bx.ty,b2.xs,bx.frz,true⟩:=by
        rw [xdi ay (xeC W) W b9 (by rw [ad];exact hi),ac i j am,if_pos ⟨rfl,rfl⟩]
        rfl
       have k4:=O.mono (w':=w.setRow m.b c') (A':=A) (M':=M') (fun h0=>ae (.b id) m2 (fun e=>hne (by injection e)) an h0) hw (by rw [hs];exact zb _) (fun _ _ h=>h) O.guard Y
       refine ⟨_,bj,rfl,k4.sz,by rw [<-bi];exact k4.ty,k4.capm,k4.fits,k4.ok,k4.low,k4.lt,fun h0=>?_,fun h0=>?_⟩
       . obtain ⟨cc,c1,c2,c3⟩:=k4.cells h0;refine ⟨cc,c1,c2,fun i' k ao hk=>?_⟩
         have h4:=c3 i' k ao hk;rw [xao aa,xa3 aa,a7] at h4;rw [xao (xbF _),xa3 (bx:=⟨2*b2.xs.length,b2.sz,rowTy bx.ty,b2.xs,bx.frz,true⟩) (xbF _)];exact h4
       . have:=k4.guard h0;rw [bc] at this;rw [ba];exact this
      . by_cases af:x.base=id
        ·
         rw [ab x e1 e2] at J;obtain ⟨bx',k1,k2⟩:=hR.box x m' J;cases x with
         | b k=>exact absurd (by rw [<-af];rfl) e1
         | r k i' j' =>
          simp only [Id.base] at af;subst af;rw [xd8 ai aa] at k1;cases k1;exact ⟨tombB,xd8 bg aa,k2.mono (fun h0=>ae _ m' (fun e=>by cases e) J h0) hw (by rw [hs];exact zb _) (fun _ _ h=>h) k2.guard Y⟩
        have al:x.base=n:=by
         rcases hS with h|h
         . exact h
         . exact absurd h af
        rw [ab x e1 e2] at J;obtain ⟨bx',k1,k2⟩:=hR.box x m' J;cases x with
        | r n' i' j' =>
         simp only [Id.base] at al;subst al;have k3:getB ((H.set id ⟨Q+1,b2.sz,b2.ty,[],false,true⟩).set n' (xLt bx ver i j (.list b2.sz b2.xs))) (.r n' i' j')=some bx':=by
          obtain ⟨a8,e3,e4,e5⟩:=xf8 aj (xeC W) k1;have bo:=aw j' a8;subst bo;have bv:i'≠i:=fun e=>e2 (by rw [e])
          rw [xdi ay (xeC W) a8 e3 (by rw [ad];exact e4),ac i' j' am,if_neg (fun e=>bv e.1),e5]
          rfl
         exact ⟨bx',k3,k2.mono (fun h0=>ae _ m' (fun e=>by cases e) J h0) hw (by rw [hs];exact zb _) (fun _ _ h=>h) k2.guard Y⟩
        | b n' =>
         simp only [Id.base] at al;subst al;rw [hm] at J;cases J;refine ⟨xLt bx ver i j (.list b2.sz b2.xs),ay,by rw [<-q.ver,bf];rfl,q.sz,q.ty,q.capm,by rw [ad];exact q.fits,fun y hy=>?_,q.low,fun h0=>by rw [hs];exact q.lt h0,fun h0=>?_,q.guard⟩
         . rcases List.mem_or_eq_of_mem_set hy with hy|rfl
           . exact q.ok y hy
           . rw [<-q.sz];exact xnT am (by rw [q.sz];exact q.ok _ (xat hi)) rfl rfl
         . refine ⟨c',.of be (setRow_heap w m.b c c' m.ty (0,0) h1),b0,fun i' k ao hk=>?_⟩
           rw [ad] at ao;have bk:MV M' (xLt bx ver i j (.list b2.sz b2.xs)) k=MV M' bx k:=rfl;show Rel _ _ (MV M' (xLt bx ver i j (.list b2.sz b2.xs)) k) _ (xLK n' i' k bx.ty _);rw [bk,ac i' k (by omega),bp]
           by_cases au:i'=i/\k=j
           . obtain ⟨rfl,rfl⟩:=au;rw [if_pos rfl,if_pos ⟨rfl,rfl⟩];unfold MV xLK;rw [W];obtain ⟨m3,q1,q2,q3,q4⟩:=Rel.osl_inv hv;rw [an] at q1;cases q1;obtain ⟨q5,a,q6,q7⟩:=q4 (by rw [<-ar,O.ver])
             exact .osl _ (.r n' i' k) _ _ _ _ ag (zb _) q3 fun _=>⟨q5,a,q6,q7⟩
           . rw [if_neg au,if_neg (fun e=>au (xHl hk b5 e))]
             exact (h3 i' k ao hk).mono hw (by rw [hs];exact zb _) (fun _ _ h=>h) (xwB Y bx k)
 refine ⟨.skip,w.setRow m.b c',A,M',undef,?_,.inr ⟨rfl,rfl⟩,⟨rfl,rfl,rfl,by rw [hs];exact zb _,fun k hk=>setRow_other w m.b k c' fun e=>by have:=q.low U;omega⟩,Y,fun _ _=>Iff.rfl,hw,⟨fun b _ hb=>setRow_other w m.b b c' fun e=>hb (.b n) m hm U e.symm,fun x m' h h0=>?_⟩,hR',.tuple #[] [] rfl (by simp)⟩
 . simp only [execOp,ho,bq,Instr.storeAt,Instr.sureAddr,storeVar,Sem.run_bind,Sem.run_pure,Result.andThen_ok,xcX bt,b8,a5,ne_eq,not_true,if_false];rw [ax,<-a6];rfl
 . obtain ⟨y,m0,a1,a2,a3,_⟩:=ak x m' h h0;exact .inl ⟨y,m0,a1,by omega,a2.symm⟩
def newRow (t:TypeId) (sz:Nat) (y:AV):AV:=putCells y (xLr t) 1 sz (.list (rowSz t) [])
theorem xnS {t:TypeId} {sz:Nat} {y:AV} (hs:xLr t<sz) (hy:y.okElem sz=true) {k:Nat} (hk:k<sz):(newRow t sz y).cells.getD k .top=if k=xLr t then .list (rowSz t) [] else y.cells.getD k .top :=
 (xpK hs (xan hy) rfl).2 k hk
theorem xps {t:TypeId} {k:Nat}:xLm t k=true->k=xLr t:=fun h=>by
 have hc:=xeC h;unfold xLm at h;rw [hc] at h;exact zf h
theorem HR.grown (hR:HR w A M B H) {n:Nat} {m m':MB} {bx:Box} {w':World} {A':Nat->Prop} {c':Array Value} {ys:List AV}
  (hm:M (.b n)=some m) (hb:H[n]?=some bx) (J:BoxAt w A M B (.b n) m bx) (a5:bx.frz=false) (hC:isC bx.ty=true) (a7:xLn m.ty=false) (ax:bx.pm=true) (ae:xLr bx.ty<m.sz)
  (hw:∀ b,b<w.heap.size->¬ A b->w'.heap[b]?=w.heap[b]?) (hs:w.heap.size<=w'.heap.size) (hA:∀ b,b<w.heap.size->A' b->A b)
  (aa:∀ x m0,x≠.b n->M x=some m0->0<m0.cap->w'.heap[m0.b]?=w.heap[m0.b]?/\(A m0.b->A' m0.b))
  (e1:m'.ver=m.ver+1) (e2:m'.sz=m.sz) (e3:m'.ty=m.ty) (hcap:bx.xs.length+ys.length<=m'.cap) (ay:m'.cap<=maxLen) (ar:B<=m'.b) (ba:m'.b<w'.heap.size) (a8:A' m'.b)
  (hc:w'.heap[m'.b]?=some (.cells c' m'.ty (0,0))) (a9:c'.size=m'.cap*m.sz) (bb:m'.b=m.b/\0<m.cap\/w.heap.size<=m'.b)
  (an:∀ i j,i<bx.xs.length->j<m.sz->Rel w A (MV M bx j) (c'.getD (i*m.sz+j) undef) (xLK n i j bx.ty ((bx.xs.getD i .top).cells.getD j .top)))
  (aq:∀ i j,i<ys.length->j<m.sz->Rel w A xLz (c'.getD ((bx.xs.length+i)*m.sz+j) undef) ((ys.getD i .top).cells.getD j .top))
  (ak:∀ y,y∈ys->y.okElem m.sz=true) (am:∀ y,y∈ys->y.cells.getD (xLr bx.ty) .top=.nils) (au:∀ b,A' b->b<w'.heap.size) :
  ∃ M',HR w' A' M' B (H.set n ⟨bx.ver+1,bx.sz,bx.ty,bx.xs++ys.map (newRow bx.ty bx.sz),false,true⟩)/\MExt M M'/\M' (.b n)=some m'/\∀ x m0,M' x=some m0->0<m0.cap->x=.b n/\m0=m'\/M x=some m0/\x≠.b n:=by
 have hn:n<H.length:=xcy hb;let M':Id->Option MB:=fun x=>if x=.b n then some m' else match x with
  | .b _=>M x
  | .r k i j=>if k=n/\bx.xs.length<=i/\i<bx.xs.length+ys.length/\j=xLr bx.ty then some ⟨0,0,rowSz bx.ty,0,rowTy bx.ty⟩ else M x
 have Z:M' (.b n)=some m':=by simp [M']
 have af:∀ i,bx.xs.length<=i->i<bx.xs.length+ys.length->M' (.r n i (xLr bx.ty))=some ⟨0,0,rowSz bx.ty,0,rowTy bx.ty⟩:=fun i h1 h2=>by simp [M',h1,h2]
 have ab:∀ x:Id,x≠.b n->(∀ i,bx.xs.length<=i->i<bx.xs.length+ys.length->x≠.r n i (xLr bx.ty))->M' x=M x:=fun x h1 h2=>by
  cases x with
  | b k=>simp [M',h1]
  | r k i j =>
   have:¬ (k=n/\bx.xs.length<=i/\i<bx.xs.length+ys.length/\j=xLr bx.ty):=fun ⟨a1,a2,a3,a4⟩=>h2 i a2 a3 (by rw [a1,a4])
   simp [M',this]
 have aj:∀ i j,bx.xs.length<=i->M (.r n i j)=none:=fun i j hi=>by
  cases h:M (.r n i j) with
  | none=>rfl
  | some m0 =>
   obtain ⟨rb,k1,_⟩:=hR.box _ m0 h;obtain ⟨_,_,k3,_⟩:=xf8 hb hC k1;omega
 have U:MExt M M':=fun x m0 h0=>by
  by_cases h1:x=.b n
  . subst h1;rw [hm] at h0;cases h0;exact ⟨m',Z,.inr (by omega)⟩
  . exact ⟨m0,by rw [ab x h1 fun i hi _ e=>by subst e;rw [aj i _ hi] at h0;cases h0];exact h0,.inl rfl⟩
 have Y:∀ x m0,M' x=some m0->x=.b n/\m0=m'\/(∃ i,bx.xs.length<=i/\i<bx.xs.length+ys.length/\x=.r n i (xLr bx.ty)/\m0=⟨0,0,rowSz bx.ty,0,rowTy bx.ty⟩)\/(M x=some m0/\x≠.b n):=fun x m0 h=>by
  by_cases h1:x=.b n
  . subst h1;rw [Z] at h;simp only [z1] at h;exact .inl ⟨rfl,h.symm⟩
  . by_cases h2:∃ i,bx.xs.length<=i/\i<bx.xs.length+ys.length/\x=.r n i (xLr bx.ty)
    . obtain ⟨i,a1,a2,rfl⟩:=h2;rw [af i a1 a2] at h;simp only [z1] at h;exact .inr (.inl ⟨i,a1,a2,rfl,h.symm⟩)
    . rw [ab x h1 fun i a1 a2 e=>h2 ⟨i,a1,a2,e⟩] at h
      exact .inr (.inr ⟨h,h1⟩)
 have q:∀ x m0,M' x=some m0->0<m0.cap->x=.b n/\m0=m'\/M x=some m0/\x≠.b n:=fun x m0 h h0=>by
  rcases Y x m0 h with h|⟨i,_,_,_,rfl⟩|h
  . exact .inl h
  . exact absurd h0 (by simp)
  . exact .inr h
 have al:∀ x m0,M x=some m0->x≠.b n->0<m0.cap->m0.b≠m'.b:=fun x m0 h hx h0 e=>by
  rcases bb with ⟨h1,h2⟩|h1
  . exact hx (hR.inj x (.b n) m0 m h hm h0 h2 (by rw [e,h1]))
  . obtain ⟨bf,_,k2⟩:=hR.box x m0 h;have:=k2.lt h0;omega
 have Q:(bx.xs++ys.map (newRow bx.ty bx.sz)).length=bx.xs.length+ys.length:=by simp
 have ai:(H.set n ⟨bx.ver+1,bx.sz,bx.ty,bx.xs++ys.map (newRow bx.ty bx.sz),false,true⟩)[n]?=some ⟨bx.ver+1,bx.sz,bx.ty,bx.xs++ys.map (newRow bx.ty bx.sz),false,true⟩:=zK hn;have hsz:=J.sz;have aw:∀ i,i<bx.xs.length->(bx.xs++ys.map (newRow bx.ty bx.sz)).getD i .top=bx.xs.getD i .top:=fun i hi=>by simp [z6,zO,hi]
 have ao:∀ i,i<ys.length->(bx.xs++ys.map (newRow bx.ty bx.sz)).getD (bx.xs.length+i) .top=newRow bx.ty bx.sz (ys.getD i .top):=fun i hi=>by
  simp [z6,zO,hi]
 have O:xLm bx.ty (xLr bx.ty)=true:=by unfold xLm;rw [hC];exact Nat.beq_refl _
 refine ⟨M',hR.rebuild (fun k=>k=n) (fun k hk _=>zW (fun e=>hk e.symm)) (fun x hx=>ab x (fun e=>hx (by rw [e];rfl)) fun i _ _ e=>hx (by rw [e];rfl)) (fun x m0 hx h0 c0=>aa x m0 (fun e=>hx (by rw [e];rfl)) h0 c0) hw hs hA U (fun x m0 hx bc=>?_) (fun x m1 x' m2 _ h1 h2 c1 c2 he=>?_) au,U,Z,q⟩
 . rcases Y x m0 bc with ⟨rfl,rfl⟩|⟨i,a1,a2,rfl,rfl⟩|⟨h0,hne⟩
   ·
    refine ⟨_,ai,by simp only;rw [J.ver,e1],by rw [e2];exact hsz,by rw [e3];exact J.ty,ay,by rw [Q];exact hcap,fun y hy=>?_,fun _=>ar,fun _=>ba,fun _=>⟨c',.of (by rw [e3];exact a7) hc,by rw [e2];exact a9,fun i j hi hj=>?_⟩,fun _=>⟨fun _=>a8,fun _=>rfl⟩⟩
    . rw [e2];rcases zF.1 hy with hy|hy
      . exact J.ok y hy
      . obtain ⟨y0,a6,rfl⟩:=zJ.1 hy;rw [hsz];exact xnT ae (ak y0 a6) rfl rfl
    . rw [e2] at hj |-;rw [Q] at hi;have a0:MV M' (⟨bx.ver+1,bx.sz,bx.ty,bx.xs++ys.map (newRow bx.ty bx.sz),false,true⟩:Box) j=MV M' bx j:=by unfold MV;rw [ax]
      show Rel _ _ (MV M' _ j) _ (xLK n i j bx.ty _);rw [a0];by_cases ap:i<bx.xs.length
      . rw [aw i ap];exact (an i j ap hj).mono hw hs hA (xwB U bx j)
      . obtain ⟨i0,rfl⟩:∃ i0,i=bx.xs.length+i0:=⟨i - bx.xs.length,by omega⟩
        have W:i0<ys.length:=by omega
        have h4:=aq i0 j W hj;have ag:=xat W;rw [ao i0 W,xnS (by rw [hsz];exact ae) (by rw [hsz];exact ak _ ag) (by rw [hsz];exact hj)]
        by_cases ah:j=xLr bx.ty
        . subst ah;rw [if_pos rfl];rw [am _ ag] at h4;have hv:c'.getD ((bx.xs.length+i0)*m.sz+xLr bx.ty) undef=.slice none 0 0:=by
           generalize c'.getD ((bx.xs.length+i0)*m.sz+xLr bx.ty) undef=u at h4;cases h4;rfl
          unfold MV xLK;rw [O,hv];exact .osl _ (.r n _ _) _ _ _ _ (af _ (Nat.le_add_right _ _) (by omega)) (zb _) rfl fun _=>⟨zb _,none,rfl,fun h=>absurd h (by simp)⟩
        . have be:xLm bx.ty j=false:=by
           cases hq:xLm bx.ty j with
           | false=>rfl
           | true=>exact absurd (xps hq) ah
          rw [if_neg ah];unfold MV xLK;rw [be,ax];exact h4.mono hw hs hA (MExt.refl _)
   ·
    obtain ⟨i0,rfl⟩:∃ i0,i=bx.xs.length+i0:=⟨i - bx.xs.length,by omega⟩
    have W:i0<ys.length:=by omega
    have ad:∀ {p:Prop},0<(0:Nat)->p:=fun h=>absurd h (by simp)
    refine ⟨⟨0,rowSz bx.ty,rowTy bx.ty,[],false,true⟩,?_,rfl,rfl,xaT (xbF _),zP _,zP _,fun y hy=>by simp at hy,ad,ad,ad,ad⟩
    rw [xdi ai hC O rfl (by rw [Q];omega)]
    simp only;rw [ao i0 W,xnS (by rw [hsz];exact ae) (by rw [hsz];exact ak _ (xat W)) (by rw [hsz];exact ae),if_pos rfl]
    rfl
   ·
    have ac:x.base=n:=hx;obtain ⟨rb,k1,k2⟩:=hR.box x m0 h0;cases x with
    | b k=>simp only [Id.base] at ac;subst ac;exact absurd rfl hne
    | r k i j =>
     simp only [Id.base] at ac;subst ac;obtain ⟨q2,q3,q4,q5⟩:=xf8 hb hC k1;have az:bx.frz=false:=a5;refine ⟨rb,?_,k2.mono (fun c0=>(aa _ m0 hne h0 c0).1) hw hs hA (fun c0=>?_) U⟩
     . rw [xdi ai hC q2 rfl (by rw [Q];omega)]
       simp only;rw [aw i q4,q5];generalize (bx.xs.getD i .top).cells.getD j .top=z;cases z<;>simp [xLN,az]
     . rw [k2.guard c0];exact ⟨(aa _ m0 hne h0 c0).2,hA _ (k2.lt c0)⟩
 . rcases q x m1 h1 c1 with ⟨rfl,rfl⟩|⟨a1,a2⟩<;>rcases q x' m2 h2 c2 with ⟨rfl,rfl⟩|⟨b1,b2⟩
   . rfl
   . exact absurd he.symm (al x' m2 b1 b2 c2)
   . exact absurd he (al x m1 a1 a2 c1)
   . exact hR.inj x x' m1 m2 a1 b1 c1 c2 he
def isNils:AV->Bool
 | .nils=>true
 | _=>false
def absAppC (P:Program) (H:List Box) (t tt:TypeId) (s x:AV):Option (AV×List Box) :=
 match xLk P t,s with
 | some ti,.osl (.b n) ver off len=>match ti.d with
  | .slice e=>match xLk P e,xLo H (.b n) ver with
   | some te,some bx=>match absSrc P H t tt e te.sz x with
    | some (ys,pm)=>if off=0/\len=bx.xs.length/\bx.frz=false/\bx.sz=te.sz/\isC bx.ty=true/\rty bx.ty=e/\bx.pm=true/\pm=true/\xLr bx.ty<te.sz/\0<te.sz /\
      (len+ys.length)*te.bytes<=140737488355328/\len+ys.length<=xL9/\te.zero.okElem te.sz=true/\0<ys.length/\ys.all (fun y=>isNils (y.cells.getD (xLr bx.ty) .top))=true then
     some (.osl (.b n) (ver+1) 0 (len+ys.length),H.set n ⟨ver+1,te.sz,bx.ty,bx.xs++ys.map (newRow bx.ty te.sz),false,true⟩) else none
    | none=>none
   | _,_=>none
  | _=>none
 | _,_=>none
set_option maxHeartbeats 1000000 in
theorem xCA (hR:HR w A M B H) (hB:B<=w.heap.size) {o:Oper} {ρc:Operand->Value} {c:Call} {t tt:TypeId} {os ox:Operand} {xs xx r:AV} {H':List Box} (ho:o.op=.call c) (bh:c.callee=.builtin .append)
  (b5:c.argTypes.toList=[t,tt]) (has:c.args.toList=[os,ox]) (hs:Rel w A M (ρc os) xs) (hx:Rel w A M (ρc ox) xx) (h:absAppC P H t tt xs xx=some (r,H')) :
  Writes P o ρc w A M B r H':=by
 unfold absAppC at h;split at h
 case h_2=>simp at h
 rename_i ti n ver off len bq;split at h
 case h_2=>simp at h
 rename_i e hd;split at h
 case h_2=>simp at h
 rename_i te bx be ak;split at h
 case h_2=>simp at h
 rename_i ys pm bz;split at h
 case isFalse=>simp at h
 rename_i bw;obtain ⟨rfl,ad,ay,hsz,hC,bp,bj,rfl,bf,a8,a2,b2,aw,bu,a5⟩:=bw;simp only [z1,za] at h;obtain ⟨rfl,rfl⟩:=h;have hu:P.underlying t=some (.slice e):=by rw [xj8 bq,hd]
 obtain ⟨i,z,ai,b9,aq,ac,ax,bn,_⟩:=xaS be;have bi:=xpu (ty:=o.type) hR be a8 hu ai hx bz;have hts':c.argTypes=#[t,tt]:=by apply Array.ext';simpa using b5
 have has':c.args=#[os,ox]:=by apply Array.ext';simpa using has
 have an:∀ v w',(Builtin.append_ #[t,tt] o.type #[ρc os,ρc ox]).run P w=.ok v w'->(execOp ρc o).run P w=.ok (.value v) w':=by
  intro v w' hv;simp [execOp,ho,resolve,bh,hts',has',invoke,builtin,hv,Go.resolve]
 rcases bi with ⟨rfl,_⟩|⟨_,b7,news,ab,a9,Z⟩
 . simp at bu
 obtain ⟨m,a,hm,O,au,af,ha⟩:=xiv hR hs ak;obtain ⟨a1,bc⟩:=xaz ak;rw [xba] at a1;simp only [Nat.sub_zero,zG] at af au;have U:m.sz=te.sz:=by rw [<-O.sz,hsz]
 have ba:m.ty=e:=by rw [<-O.ty,bp]
 have a6:m.ver=ver:=by rw [<-O.ver,bc]
 have b8:len+ys.length<=4611686018427387904:=b2;have hnil':∀ y,y∈ys->y.cells.getD (xLr bx.ty) .top=.nils:=fun y hy=>by
  have:=zH.1 a5 y hy;generalize y.cells.getD (xLr bx.ty) .top=q at this;cases q<;>first|rfl|(simp [isNils] at this)
 have hok':∀ y,y∈ys->y.okElem m.sz=true:=fun y hy=>by rw [U];exact b7 y hy
 have hH':(⟨ver+1,te.sz,bx.ty,bx.xs++ys.map (newRow bx.ty te.sz),false,true⟩:Box)=⟨bx.ver+1,bx.sz,bx.ty,bx.xs++ys.map (newRow bx.ty bx.sz),false,true⟩:=by rw [hsz,bc]
 rw [hH'];have bk:Rel w A M z te.zero:=by rw [bn];exact xce w A M z
 obtain ⟨cc,_⟩:=bk.cells (xaC aw);have ca:=xan aw;have aj:∀ (c1:Array Value) (cap:Nat),c1.size=cap*te.sz->len+ys.length<=cap->cap<=maxLen ->
   (∀ i j,i<bx.xs.length->j<m.sz->Rel w A (MV M bx j) (c1.getD (i*m.sz+j) undef) (xLK n i j bx.ty ((bx.xs.getD i .top).cells.getD j .top))) ->
   (∀ k,k<ys.length*te.sz->c1.getD (len*te.sz+k) undef=news.getD k undef) ->
   (Builtin.append_ #[t,tt] o.type #[ρc os,ρc ox]).run P w=.ok (.slice (some ⟨w.heap.size,0,none⟩) (len+ys.length) cap) (w.drew.alloc (.cells c1 e)) ->
   Writes P o ρc w A M B (.osl (.b n) (ver+1) 0 (len+ys.length)) (H.set n ⟨bx.ver+1,bx.sz,bx.ty,bx.xs++ys.map (newRow bx.ty bx.sz),false,true⟩):=by
  intro c1 cap ah ag ae a7 bb Q;have Y:Below w.heap.size w (w.drew.alloc (.cells c1 e)):=((Below.refl _ _).drew).alloc (by simp) _
  have hA:∀ b,b<w.heap.size->(APut A w.heap.size false b->A b):=fun b hb h=>by
   rcases h with h|⟨h,_⟩
   . exact h
   . omega
  have b1:(w.drew.alloc (.cells c1 e)).heap[w.heap.size]?=some (.cells c1 e (0,0)):=heap_alloc_new w.drew (.cells c1 e);obtain ⟨M',g1,g2,g3,g4⟩:=hR.grown (m':=⟨w.heap.size,ver+1,te.sz,cap,e⟩) (w':=w.drew.alloc (.cells c1 e)) (A':=APut A w.heap.size false) (c':=c1) (ys:=ys) hm a1 O ay hC (O.nomap (xb5 ak)) bj (by rw [U];exact bf)
   (fun b hb _=>Y.block b hb) Y.size hA (fun x m0 _ h0 c0=>by
    obtain ⟨cb,_,k2⟩:=hR.box x m0 h0;exact ⟨Y.block _ (k2.lt c0),.inl⟩) (by simp [a6]) U.symm ba.symm (by simp;omega) ae hB (by simp) (.inr ⟨rfl,rfl⟩) b1 (by simp [U,ah]) (.inr (zb _)) a7
   (fun i' j W hj=>by
    rw [U] at hj |-;rw [Nat.add_mul,Nat.add_assoc,<-ad,bb _ (xcz W hj)];exact a9 i' j W hj) hok' hnil' (fun b hb=>by
     rcases hb with hb|⟨rfl,_⟩
     . have:=hR.lt b hb;simp;omega
     . simp)
  exact ⟨_,_,APut A w.heap.size false,M',_,an _ _ Q,.inl rfl,Y.mono hB,g2,fun b hb=>⟨hA b hb,.inl⟩,fun b hb _=>Y.block b hb,⟨fun b hb _=>Y.block b hb,fun x m0 h0 c0=>by
   rcases g4 x m0 h0 c0 with ⟨_,rfl⟩|⟨h1,_⟩
   . exact .inr (zb _)
   . exact .inl ⟨x,m0,h1,c0,rfl⟩⟩,g1,.osl _ (.b n) (ver+1) 0 (len+ys.length) _ g3 (zb _) rfl fun _=>⟨by simpa using ag,some ⟨w.heap.size,0,none⟩,by simp,fun _=>by simp⟩⟩
 rcases Nat.eq_zero_or_pos m.cap with J|J
 ·
  have bv:bx.xs=[]:=zz (by omega)
  have b4:len=0:=by omega
  subst b4;rw [J] at af;have ag:=grownCap_ge w (0+ys.length) 0 e;have ae:=grownCap_le_maxLen w (0+ys.length) 0 e (by unfold maxLen;omega)
  have am:(Builtin.zeroCells z.cells (grownCap w (0+ys.length) 0 e - ys.length)).size=(grownCap w (0+ys.length) 0 e - ys.length)*te.sz:=by rw [size_zeroCells];congr 1;omega
  refine aj (news.toArray++Builtin.zeroCells z.cells (grownCap w (0+ys.length) 0 e - ys.length)) (grownCap w (0+ys.length) 0 e) (by rw [Array.size_append,List.size_toArray,ab,am,<-Nat.add_mul];congr 1;omega) ag ae (fun i' j W _=>by rw [bv] at W;simp at W) (fun k hk=>?_) ?_
  . rw [show 0*te.sz+k=k by omega]
    simp only [zt,Array.getElem?_append,List.size_toArray,ab,hk,if_true,List.getElem?_toArray,z6]
  . rw [af];cases a with
    | none =>
     have Q:=(Z i z ai aq ac.symm).nil (by omega) (by rw [<-ax];simp at a2;omega)
     simpa using Q
    | some a =>
     have Q:=(Z i z ai aq ac.symm).grow a 0 0 [] (by simp) (by simp) (by omega) (by omega) (growslice_fits (by omega) (by rw [<-ax];exact a2))
     simpa using Q
 have b6:=ha J;subst b6;simp only [Nat.zero_mul] at af;obtain ⟨c0,h1,h2,h3⟩:=O.cells J
 replace h1:=h1.plain (O.nomap (xb5 ak))
 have bg:A m.b:=(O.guard J).1 ay;have b3:len<=m.cap:=au;by_cases aa:len+ys.length<=m.cap
 ·
  have al:len*te.sz+news.length<=c0.toList.length:=by
   have bo:c0.toList.length=m.cap*te.sz:=by simp [h2,U]
   rw [ab,<-Nat.add_mul,bo];exact Nat.mul_le_mul_right _ aa
  have Q:(Builtin.append_ #[t,tt] o.type #[ρc os,ρc ox]).run P w=.ok (.slice (some ⟨m.b,0,none⟩) (len+ys.length) m.cap) (w.setRow m.b (xMc c0.toList (len*te.sz) news).toArray):=by
   have a0:len*i.size+news.length<=c0.size:=by
    rw [ab,<-ac,<-Nat.add_mul,h2,U];exact Nat.mul_le_mul_right _ aa
   have:=(Z i z ai aq ac.symm).room m.b len m.cap c0 (by rw [<-ba];exact h1) aa a0
   rw [af,this,<-ac];rfl
  generalize a3:(xMc c0.toList (len*te.sz) news).toArray=c1 at Q;have b0:c1.size=m.cap*m.sz:=by rw [<-a3];have:=xiC al;simp at this |-;omega
  have hs':(w.setRow m.b c1).heap.size=w.heap.size:=by simp [World.setRow]
  have hw:∀ b,b<w.heap.size->¬ A b->(w.setRow m.b c1).heap[b]?=w.heap[b]?:=fun b _ hb=>setRow_other w m.b b c1 fun e=>hb (e▸bg)
  obtain ⟨M',g1,g2,g3,g4⟩:=hR.grown (m':=⟨m.b,ver+1,m.sz,m.cap,m.ty⟩) (w':=w.setRow m.b c1) (A':=A) (c':=c1) (ys:=ys) hm a1 O ay hC (O.nomap (xb5 ak)) bj (by rw [U];exact bf)
   hw (by rw [hs'];exact zb _) (fun _ _ h=>h) (fun x m0 hx h0 ao=>⟨setRow_other w m.b m0.b c1 fun e=>hx (hR.inj x (.b n) m0 m h0 hm ao J e),fun h=>h⟩) (by simp [a6]) rfl rfl (by simp;omega) O.capm (O.low J) (by rw [hs'];exact O.lt J) bg
   (setRow_heap w m.b c0 c1 m.ty (0,0) h1) b0 (.inl ⟨rfl,J⟩)
   (fun i' j W hj=>by
    rw [<-a3,xd9,xgx al,if_neg (by
     have h9:=xcz W hj;rw [<-ad,U] at h9;rw [U];omega),xbO]
    exact h3 i' j W hj)
   (fun i' j W hj=>by
    rw [U] at hj |-;rw [Nat.add_mul,Nat.add_assoc,<-ad,<-a3,xd9,xgx al,if_pos (by have:=xcz W hj;rw [ab];omega),show len*te.sz+(i'*te.sz+j) - len*te.sz=i'*te.sz+j by omega]
    exact a9 i' j W hj) hok' hnil' (fun b hb=>by rw [hs'];exact hR.lt b hb)
  exact ⟨_,w.setRow m.b c1,A,M',_,an _ _ Q,.inl rfl,⟨rfl,rfl,rfl,by rw [hs'];exact zb _,fun k hk=>setRow_other w m.b k c1 fun e=>by have:=O.low J;omega⟩,g2,fun _ _=>Iff.rfl,hw,⟨fun b _ hb=>setRow_other w m.b b c1 fun e=>hb (.b n) m hm J e.symm,fun x m0 h0 ao=>by
   rcases g4 x m0 h0 ao with ⟨_,rfl⟩|⟨bt,_⟩
   . exact .inl ⟨.b n,m,hm,J,rfl⟩
   . exact .inl ⟨x,m0,bt,ao,rfl⟩⟩,g1,.osl _ (.b n) (ver+1) 0 (len+ys.length) _ g3 (zb _) rfl fun _=>⟨by simpa using aa,some ⟨m.b,0,none⟩,by simp,fun _=>by simp⟩⟩
 . have az:∀ j u,(c0.toList.take (len*te.sz))[j]?=some u->w.cell? ((⟨m.b,0,none⟩:Addr).add j)=some u:=by
    intro j u ar;rw [List.getElem?_take] at ar;split at ar
    . rw [xfj,zG];simp [World.cell?,h1];simpa using ar
    . simp at ar
   have ap:(c0.toList.take (len*te.sz)).length=len*te.sz:=by
    simp only [zr,Array.length_toList,h2,U];have:len*te.sz<=m.cap*te.sz:=Nat.mul_le_mul_right _ b3;omega
   have Q:=(Z i z ai aq ac.symm).grow ⟨m.b,0,none⟩ len m.cap (c0.toList.take (len*te.sz)) (by rw [ap,ac]) az (by omega) (by omega) (growslice_fits (by omega) (by rw [<-ax];exact a2))
   have ag:=grownCap_ge w (len+ys.length) m.cap e;have ae:=grownCap_le_maxLen w (len+ys.length) m.cap e (by unfold maxLen;omega)
   generalize hcap:grownCap w (len+ys.length) m.cap e=cap at Q ag ae;have am:(Builtin.zeroCells z.cells (cap - (len+ys.length))).size=(cap - (len+ys.length))*te.sz:=by rw [size_zeroCells];congr 1;omega
   generalize a4:(c0.toList.take (len*te.sz)).toArray++news.toArray++Builtin.zeroCells z.cells (cap - (len+ys.length))=c1 at Q;have ah:c1.size=cap*te.sz:=by
    rw [<-a4];simp only [Array.size_append,List.size_toArray,ap,ab,am,<-Nat.add_mul];congr 1;omega
   refine aj c1 cap ah ag ae (fun i' j W hj=>?_) (fun k hk=>?_) (by rw [af];exact Q)
   . have hk:=xcz W hj;rw [<-ad,U] at hk;have e1:c1.getD (i'*m.sz+j) undef=c0.getD (i'*m.sz+j) undef:=by
      rw [<-xbO,<-xbO,<-a4,U];simp only [Array.toList_append,zv,z6,zO,ap,hk,if_true,List.getElem?_take]
     rw [e1];exact h3 i' j W hj
   . rw [<-xbO,<-a4];simp only [Array.toList_append,zv,z6,zO,ap,show ¬ len*te.sz+k<len*te.sz by omega,if_false,ab,show len*te.sz+k - len*te.sz=k by omega,hk,if_true]
def mkd (H:List Box):AV->Bool
 | .own (.b n) _ _ _=>match H[n]? with
  | some bx=>isC bx.ty
  | none=>false
 | .osl (.b n) _ _ _=>match H[n]? with
  | some bx=>isC bx.ty
  | none=>false
 | _=>false
def isRowRef:AV->Bool
 | .osl (.r _ _ _) _ _ _=>true
 | _=>false
def absTake (P:Program) (H:List Box) (t tt:TypeId) (s x:AV):Option (AV×List Box) :=
 match s with
 | .osl (.r n i j) ver off len=>match H[n]? with
  | some bx=>match (bx.xs.getD i .top).cells.getD j .top with
   | .list sz ys=>if xLm bx.ty j=true/\bx.pm=true/\j<bx.sz/\i<bx.xs.length/\(bx.xs.getD i .top).cells.length=bx.sz/\ver=2*ys.length/\off=0/\len=ys.length then
    xMo P (H.set n (xLt bx bx.ver i j (.int .i64 ys.length))++[⟨0,sz,rowTy bx.ty,ys,bx.frz,true⟩]) t tt (.osl (.b H.length) 0 0 len) x else none
   | _=>none
  | none=>none
 | _=>none
theorem Writes.pre {o:Oper} {ρc:Operand->Value} {x:AV} {H':List Box} {M1:Id->Option MB} (hm:Mv w A M w A M1) (h:Writes P o ρc w A M1 B x H'):Writes P o ρc w A M B x H':=by
 obtain ⟨n,w',A',M',v,h1,h2,h3,h4,h5,h6,h7,h8,h9⟩:=h;refine ⟨n,w',A',M',v,h1,h2,h3,hm.ext.trans h4,h5,h6,⟨fun b hb J=>h7.1 b hb fun id m q h0 e=>?_,fun id m' q h0=>?_⟩,h8,h9⟩
 . rcases hm.touch.2 id m q h0 with ⟨i,m1,g1,g2,g3⟩|g1
   . exact J i m1 g1 g2 (by rw [<-g3,e])
   . omega
 . rcases h7.2 id m' q h0 with ⟨i,m1,g1,g2,g3⟩|g1
   . rcases hm.touch.2 i m1 g1 g2 with ⟨i2,m2,k1,k2,k3⟩|k1
     . exact .inl ⟨i2,m2,k1,k2,by rw [g3,k3]⟩
     . exact .inr (by rw [g3];exact k1)
   . exact .inr g1
theorem xDy (hR:HR w A M B H) (hB:B<=w.heap.size) {o:Oper} {ρc:Operand->Value} {c:Call} {t tt:TypeId} {os ox:Operand} {xs xx r:AV} {H':List Box} (ho:o.op=.call c) (J:c.callee=.builtin .append)
  (Q:c.argTypes.toList=[t,tt]) (has:c.args.toList=[os,ox]) (hs:Rel w A M (ρc os) xs) (hx:Rel w A M (ρc ox) xx) (h:absTake P H t tt xs xx=some (r,H')) :
  Writes P o ρc w A M B r H':=by
 unfold absTake at h;split at h
 case h_2=>simp at h
 rename_i n i j ver off len;split at h
 case h_2=>simp at h
 rename_i bx hb;split at h
 case h_2=>simp at h
 rename_i sz ys q;split at h
 case isFalse=>simp at h
 rename_i W;obtain ⟨O,Y,hj,hi,U,rfl,rfl,rfl⟩:=W;obtain ⟨m,hm,_⟩:=Rel.osl_inv hs;obtain ⟨d1,d2,d3⟩:=hR.detach hb O q hj U hm;exact Writes.pre d2 (xs9 d1 hB ho J Q has (d3 _ hs) (hx.mono (fun _ _ _=>rfl) (zb _) (fun _ _ h=>h) d2.ext) h)
theorem xHJ {t:TypeId} (q:xLn t=false):isC (rty t)=false:=by
 unfold rty;split
 . rw [q];show isC (t % 1048576)=false;have h:t % 1048576<1048576:=Nat.mod_lt _ (by omega)
   unfold isC;cases hb:Nat.ble 1048576 (t % 1048576) with
   | false=>rfl
   | true=>have:=Nat.le_of_ble_eq_true hb;exact absurd h (Nat.not_lt.2 this)
 . assumption
theorem HR.unmark (hR:HR w A M B H) {n:Nat} {bx:Box} (hb:H[n]?=some bx) (hC:isC bx.ty=true) (af:xLn bx.ty=false) (ai:rowsOk bx bx.xs=true) :
  ∃ A' M',HR w A' M' B (H.set n ⟨bx.ver,bx.sz,rty bx.ty,bx.xs,bx.frz,true⟩)/\Mv w A M w A' M'/\∀ b,b<B->A b->A' b:=by
 have hn:n<H.length:=xcy hb;let A':Nat->Prop:=fun b=>A b/\¬ ∃ i j m0,M (.r n i j)=some m0/\0<m0.cap/\m0.b=b
 let M':Id->Option MB:=fun x=>match x with
  | .b _=>M x
  | .r k i j=>if k=n then (M x).map fun _=>⟨0,tombB.ver,0,0,0⟩ else M x
 have aj:∀ k,M' (.b k)=M (.b k):=fun k=>rfl
 have O:∀ i j m0,M (.r n i j)=some m0->M' (.r n i j)=some ⟨0,tombB.ver,0,0,0⟩:=fun i j m0 h=>by simp [M',h]
 have Z:∀ i j,M (.r n i j)=none->M' (.r n i j)=none:=fun i j h=>by simp [M',h]
 have U:∀ x:Id,x.base≠n->M' x=M x:=fun x hx=>by
  cases x with
  | b k=>rfl
  | r k i j=>simp only [Id.base] at hx;simp [M',hx]
 have q:=ai;unfold rowsOk at q;rw [hC] at q;simp only [xLR,ze,zH] at q;obtain ⟨ah,q⟩:=q;have ab:∀ i j m0,M (.r n i j)=some m0->xLm bx.ty j=true/\i<bx.xs.length/\m0.ver<tombB.ver:=fun i j m0 h=>by
  obtain ⟨rb,k1,k2⟩:=hR.box _ m0 h;obtain ⟨e1,e2,e3,e4⟩:=xf8 hb hC k1;obtain ⟨ys,hy⟩:=xdx (q _ (xat e3));rw [xps e1,hy] at e4;subst e4;have h1:2*ys.length=m0.ver:=k2.ver;have h2:ys.length<=m0.cap:=k2.fits;have h3:=k2.capm;unfold maxLen at h3;refine ⟨e1,e3,?_⟩;show m0.ver<1208925819614629174706176;omega
 have aa:MExt M M':=fun x m0 h=>by
  by_cases hx:x.base=n
  . cases x with
    | b k=>exact ⟨m0,h,.inl rfl⟩
    | r k i j =>
     simp only [Id.base] at hx;subst hx;exact ⟨_,O i j m0 h,.inr (ab i j m0 h).2.2⟩
  . exact ⟨m0,by rw [U x hx];exact h,.inl rfl⟩
 have Q:∀ x m',M' x=some m'->0<m'.cap->M x=some m'/\∀ i j,x≠.r n i j:=fun x m' h h0=>by
  by_cases hx:x.base=n
  . cases x with
    | b k=>exact ⟨h,fun i j e=>by cases e⟩
    | r k i j =>
     simp only [Id.base] at hx;subst hx;cases hm:M (.r k i j) with
     | none=>rw [Z i j hm] at h;cases h
     | some m0 =>
      rw [O i j m0 hm] at h;cases h;exact absurd h0 (by simp)
  . rw [U x hx] at h;exact ⟨h,fun i j e=>hx (by rw [e];rfl)⟩
 have hA:∀ b,b<w.heap.size->A' b->A b:=fun b _ h=>h.1
 have J:∀ (x:Id) m0,(∀ i j,x≠.r n i j)->M x=some m0->0<m0.cap->A m0.b->A' m0.b:=fun x m0 hx h h0 ag=>by
  refine ⟨ag,?_⟩;rintro ⟨i,j,m1,e1,e2,e3⟩;exact hx i j (hR.inj x (.r n i j) m0 m1 h e1 h0 e2 e3.symm)
 have ad:(H.set n ⟨bx.ver,bx.sz,rty bx.ty,bx.xs,bx.frz,true⟩)[n]?=some ⟨bx.ver,bx.sz,rty bx.ty,bx.xs,bx.frz,true⟩:=zK hn;have Y:isC (rty bx.ty)=false:=xHJ af;refine ⟨A',M',hR.rebuild (fun k=>k=n) (fun k hk _=>zW (fun e=>hk e.symm)) (fun x hx=>U x hx) (fun x m0 hx h0 c0=>⟨rfl,J x m0 (fun i j e=>hx (by rw [e];rfl)) h0 c0⟩) (fun _ _ _=>rfl) (zb _) hA aa (fun x m' hx h=>?_) (fun x m1 x' m2 _ h1 h2 c1 c2 he=>?_) (fun b hb=>hR.lt b hb.1),
  ⟨zb _,fun _ _ _=>rfl,hA,fun b _ h ae=>⟨h,?_⟩,aa,⟨fun _ _ _=>rfl,fun x m' h h0=>.inl ⟨x,m',(Q x m' h h0).1,h0,rfl⟩⟩⟩,fun b ak h=>⟨h,?_⟩⟩
 . cases x with
   | b k =>
    have hx:k=n:=hx;subst hx;have h:M (.b k)=some m':=h;obtain ⟨bx',k1,k2⟩:=hR.box _ m' h;rw [xba,hb] at k1;cases k1;refine ⟨_,ad,k2.ver,k2.sz,by rw [xaT Y];exact k2.ty,k2.capm,k2.fits,k2.ok,k2.low,k2.lt,fun h0=>?_,fun h0=>?_⟩
    . obtain ⟨c,c1,c2,c3⟩:=k2.cells h0;refine ⟨c,c1,c2,fun i j hi hj=>?_⟩
      have h4:=c3 i j hi hj;rw [xao Y,xa3 (bx:=⟨bx.ver,bx.sz,rty bx.ty,bx.xs,bx.frz,true⟩) Y];show Rel w A' xLz _ _;cases ac:xLm bx.ty j with
      | true =>
       obtain ⟨ys,hy⟩:=xdx (q _ (xat hi));rw [<-xps ac] at hy;unfold xLK MV at h4;simp only [ac] at h4;rw [hy] at h4 |-;exact xAQ hR hA hb hC hy h4 fun m0 e1 e2 e3=>e3.2 ⟨i,j,m0,e1,e2,rfl⟩
      | false =>
       unfold xLK MV at h4;simp only [ac,ah] at h4;exact h4.mono (fun _ _ _=>rfl) (zb _) hA (MExt.refl _)
    . rw [k2.guard h0];exact ⟨J (.b k) m' (fun i j e=>by cases e) h h0,fun h=>h.1⟩
   | r k i j =>
    have hx:k=n:=hx;subst hx;cases hm:M (.r k i j) with
    | none=>rw [Z i j hm] at h;cases h
    | some m0 =>
     rw [O i j m0 hm] at h;cases h;have W:∀ {p:Prop},0<(0:Nat)->p:=fun h=>absurd h (by simp)
     exact ⟨tombB,xd8 ad Y,rfl,rfl,rfl,zP _,zP _,fun y hy=>by simp [tombB] at hy,W,W,W,W⟩
 . exact hR.inj x x' m1 m2 (Q x m1 h1 c1).1 (Q x' m2 h2 c2).1 c1 c2 he
 . rintro ⟨i,j,m1,e1,e2,e3⟩;exact ae _ m1 e1 e2 e3
 . rintro ⟨i,j,m1,e1,e2,e3⟩;obtain ⟨rb,_,k2⟩:=hR.box _ m1 e1;have:=k2.low e2;omega
end
section
open Go.Maps Go.MapKept
def isKey (s:List UInt8) (x:AV):Bool:=match x with
 | .str k=>k==s
 | _=>false
def mapIx:List AV->List UInt8->Option Nat
 | [],_=>none
 | e::es,s=>match isKey s (e.cells.getD 0 .top) with
  | true=>some 0
  | false=>(mapIx es s).map (·+1)
def xLQ (xs:List AV) (s:List UInt8):Bool:=(mapIx xs s).isSome
def xLE (z:AV) (xs:List AV) (s:List UInt8):AV:=match mapIx xs s with
 | some i=>(xs.getD i .top).cells.getD 1 .top
 | none=>z
def xLC (xs:List AV) (s:List UInt8) (v:AV):List AV:=match mapIx xs s with
 | some i=>xs.set i (.agg [.str s,v])
 | none=>xs++[.agg [.str s,v]]
def mapTy (t:TypeId):TypeId:=1208925819614629241815040+4294967296*t
theorem xph:∀ {xs:List AV} {s:List UInt8},(∀ i,i<xs.length->isKey s ((xs.getD i .top).cells.getD 0 .top)=false)->mapIx xs s=none
 | [],_,_=>rfl
 | e::es,s,h=>by
  have h0:=h 0 (by simp)
  simp only [List.getD_cons_zero] at h0;simp only [mapIx,h0];rw [xph fun i hi=>by simpa using h (i+1) (by simpa using hi)]
  rfl
theorem xse:∀ {xs:List AV} {s:List UInt8} {j:Nat},j<xs.length->isKey s ((xs.getD j .top).cells.getD 0 .top)=true->(∀ i,i<j->isKey s ((xs.getD i .top).cells.getD 0 .top)=false)->mapIx xs s=some j
 | [],_,_,h,_,_=>by simp at h
 | e::es,s,0,_,h1,_=>by simp only [List.getD_cons_zero] at h1;simp only [mapIx,h1]
 | e::es,s,j+1,h,h1,h2=>by
  have h0:=h2 0 (by omega)
  simp only [List.getD_cons_zero] at h0;simp only [mapIx,h0];rw [xse (j:=j) (by simpa using h) (by simpa using h1) fun i hi=>by simpa using h2 (i+1) (by omega)]
  rfl
theorem xqA {s t:ByteArray} (h:s.data.toList=t.data.toList):s=t:=by
 cases s;cases t;simp only at h;congr 1;exact Array.ext' h
structure MapAt (w:World) (A:Nat->Prop) (M:Id->Option MB) (m:MB) (xs:List AV) (es:Array MapEntry) (clock:Nat):Prop where
 heap:MapB w m.b es clock
 size:es.size=xs.length
 keys:∀ (k:Nat) (x:MapEntry),es[k]?=some x->∃ t:ByteArray,x.key=.string t/\(xs.getD k .top).cells.getD 0 .top=.str t.data.toList/\t.size<=maxLen
 vals:∀ (k:Nat) (x:MapEntry),es[k]?=some x->Rel w A M x.val ((xs.getD k .top).cells.getD 1 .top)
 apart:∀ (k l:Nat) (x y:MapEntry),es[k]?=some x->es[l]?=some y->x.key=y.key->k=l
theorem MapAt.miss {w:World} {A:Nat->Prop} {M:Id->Option MB} {m:MB} {xs:List AV} {es:Array MapEntry} {clock:Nat} (h:MapAt w A M m xs es clock) {t:ByteArray} (q:∀ x∈es.toList,x.key≠.string t):mapIx xs t.data.toList=none :=
 xph fun i hi=>by
  have hi':i<es.size:=by rw [h.size];exact hi
  obtain ⟨t',h1,h2,_⟩:=h.keys i es[i] (by simp [hi'])
  rw [h2];show (t'.data.toList==t.data.toList)=false;rw [beq_eq_false_iff_ne];intro e;exact q es[i] (by simp) (by rw [h1,xqA e])
theorem MapAt.hit {w:World} {A:Nat->Prop} {M:Id->Option MB} {m:MB} {xs:List AV} {es:Array MapEntry} {clock:Nat} (h:MapAt w A M m xs es clock) {t:ByteArray} {j:Nat} {e0:MapEntry} (hj:es.toList[j]?=some e0) (hk:e0.key=.string t):mapIx xs t.data.toList=some j/\j<xs.length:=by
 have q:es[j]?=some e0:=by simpa using hj
 have hj':j<es.size:=by
  rcases zI j es.size with h|h
  . exact h
  . simp [Array.getElem?_eq_none h] at q
 have J:j<xs.length:=by rw [<-h.size];exact hj'
 refine ⟨xse J ?_ fun i hi=>?_,J⟩
 . obtain ⟨t',h1,h2,_⟩:=h.keys j e0 q;rw [h2];rw [hk] at h1;injection h1 with h1;rw [h1];show (t'.data.toList==t'.data.toList)=true;exact beq_self_eq_true _
 . have hi':i<es.size:=by omega
   obtain ⟨t',h1,h2,_⟩:=h.keys i es[i] (by simp [hi'])
   rw [h2];show (t'.data.toList==t.data.toList)=false;rw [beq_eq_false_iff_ne];intro e;have:=h.apart i j es[i] e0 (by simp [hi']) q (by rw [h1,hk,xqA e])
   omega
theorem xyw {xs:List AV} {sz k j:Nat} (q:∀ x,x∈xs->x.okElem sz=true) (hk:k<xs.length) (hj:j<sz):((xs.getD k .top).cells.getD j .top).one=true:=by
 have h:=q _ (xat hk);have h1:=xaC h;have h2:=xan h;rw [zH] at h1;exact h1 _ (xat (by omega))
theorem xvW {w:World} {A:Nat->Prop} {M:Id->Option MB} {t:ByteArray} {x:AV} (h:Rel w A M (.string t) x) (hx:x.one=true) (J:∀ id ver i j,x≠.own id ver i j) (q:∀ id ver i j,x≠.osl id ver i j):x=.str t.data.toList:=by
 generalize hv:Value.string t=v at h;cases h<;>first|(cases hv;rfl)|(cases hv;done)|(simp [AV.one] at hx;done)|(exact absurd rfl (J _ _ _ _))|(exact absurd rfl (q _ _ _ _))
theorem BoxAt.mapAt {w:World} {A:Nat->Prop} {M:Id->Option MB} {B:Nat} {id:Id} {m:MB} {bx:Box} (h:BoxAt w A M B id m bx) (hm:xLn bx.ty=true) (h0:xLm bx.ty 0=false) (h1:xLm bx.ty 1=false) (hs:bx.sz=2) (hp:bx.pm=true) (hcap:0<m.cap) :
  ∃ es clock,MapAt w A xLz m bx.xs es clock/\m.cap=maxLen:=by
 obtain ⟨c,c1,c2,c3⟩:=h.cells hcap;have U:xLn m.ty=true:=by
  rw [<-h.ty];unfold rty;split
  . rw [hm];exact hm
  . exact hm
 unfold HoldsC at c1;rw [U] at c1;obtain ⟨es,clock,d1,d2,d3,d4,d5,d6⟩:=c1;have hsz:m.sz=2:=by rw [<-h.sz];exact hs
 have J:∀ (k:Nat) (x:MapEntry),es[k]?=some x->k<bx.xs.length:=fun k x hx=>by
  rw [<-d2];rcases zI k es.size with h|h
  . exact h
  . simp [Array.getElem?_eq_none h] at hx
 have q:∀ (k j:Nat),k<bx.xs.length->j<2->xLm bx.ty j=false->Rel w A xLz (c.getD (k*m.sz+j) undef) ((bx.xs.getD k .top).cells.getD j .top):=fun k j hk hj Q=>by
  have h4:=c3 k j hk (by rw [hsz];exact hj)
  unfold MV xLK at h4;simp only [Q,hp] at h4;exact h4
 refine ⟨es,clock,⟨d1,d2,fun k x hx=>?_,fun k x hx=>?_,d6⟩,d3⟩
 . obtain ⟨t,ht,O⟩:=d5 k x hx;have hk:=J k x hx;have h4:=q k 0 hk (by omega) h0
   rw [Nat.add_zero,(d4 k x hx).1,ht] at h4;exact ⟨t,ht,xvW h4 (xyw h.ok hk (by rw [hsz];omega)) (fun id ver i j e=>by rw [e] at h4;obtain ⟨_,hh,_⟩:=Rel.own_inv h4;cases hh) (fun id ver i j e=>by rw [e] at h4;obtain ⟨_,hh,_⟩:=Rel.osl_inv h4;cases hh),O⟩
 . have h4:=q k 1 (J k x hx) (by omega) h1
   rw [(d4 k x hx).2] at h4;exact h4
def getMap (H:List Box) (n:Nat) (ver:Nat):Option Box:=match H[n]? with
 | some bx=>if bx.ver=ver/\xLn bx.ty=true/\xLm bx.ty 0=false/\xLm bx.ty 1=false/\bx.sz=2/\bx.pm=true then some bx else none
 | none=>none
def mapNum (P:Program) (t e:TypeId):Option TypeId:=match P.underlying e with
 | some (.slice e2)=>match xLk P e2 with
  | some te=>match Nat.beq te.sz 2 with
   | true=>some (mapTy t)
   | false=>some (1208925819614629174706176+4503599627370496*t+1048576*(2+64*(te.sz+64*e2)))
  | none=>none
 | _=>some (mapTy t)
def absMakeM (P:Program) (H:List Box) (t:TypeId):Option (AV×List Box):=match P.underlying t with
 | some (.map k e)=>match P.underlying k,mapNum P t e with
  | some .string,some ty=>if xLn ty=true/\isC ty=true then some (.own H.length 0 0 0,H++[⟨0,2,ty,[],false,true⟩]) else none
  | _,_=>none
 | _=>none
def absLookM (P:Program) (H:List Box) (t:TypeId) (m k:AV) (c:Bool):Option AV:=match m,k,P.underlying t with
 | .own (.b n) ver _ _,.str s,some (.map kt et)=>match P.underlying kt,xLk P et,getMap H n ver with
  | some .string,some te,some bx=>if s.length<=xL9 then some (match c with
   | true=>.tuple [xLE te.zero bx.xs s,.bool (xLQ bx.xs s)]
   | false=>xLE te.zero bx.xs s) else none
  | _,_,_=>none
 | _,_,_=>none
def lookL (xs:List AV) (s:List UInt8):List AV:=match mapIx xs s with
 | some i=>((xs.getD i .top).cells.getD 1 .top).toList
 | none=>[]
def absLookL (P:Program) (H:List Box) (t:TypeId) (m k:AV) (c:Bool):Option AV:=match m,k,P.underlying t with
 | .own (.b n) ver _ _,.str s,some (.map kt et)=>match P.underlying kt,P.underlying et,xLk P et,getMap H n ver with
  | some .string,some (.slice e2),some te,some bx=>match te.zero,xLk P e2 with
   | .nils,some te2=>if s.length<=xL9/\(!xLQ bx.xs s || xL0 te2.sz (xLE .nils bx.xs s))=true then some (match c with
    | true=>.tuple [.list te2.sz (lookL bx.xs s),.bool (xLQ bx.xs s)]
    | false=>.list te2.sz (lookL bx.xs s)) else none
   | _,_=>none
  | _,_,_,_=>none
 | _,_,_=>none
theorem xsI {P:Program} {H:List Box} {t:TypeId} {m k r:AV} {c:Bool} (h:absLookL P H t m k c=some r):∃ n ver i j bx,m=.own (.b n) ver i j/\getMap H n ver=some bx:=by
 unfold absLookL at h;split at h
 case h_2=>simp at h
 rename_i n ver i j s kt et U;split at h
 case h_2=>simp at h
 rename_i e2 te bx Q J O q;exact ⟨n,ver,i,j,bx,rfl,q⟩
def absPutM (P:Program) (H:List Box) (t:TypeId) (m k v:AV):Option (List Box):=match m,k,P.underlying t with
 | .own (.b n) ver _ _,.str s,some (.map kt _)=>match P.underlying kt,getMap H n ver with
  | some .string,some bx=>if bx.frz=false/\v.one=true/\v.pure=true/\bx.xs.length<xL9/\s.length<=xL9 then some (H.set n ⟨ver,2,bx.ty,xLC bx.xs s v,false,true⟩) else none
  | _,_=>none
 | _,_,_=>none
section
variable {P : Program} {w : World} {A : Nat -> Prop} {M : Id -> Option MB} {B : Nat} {H : List Box}
theorem xkC {n ver:Nat} {bx:Box} (h:getMap H n ver=some bx):H[n]?=some bx/\bx.ver=ver/\xLn bx.ty=true/\xLm bx.ty 0=false/\xLm bx.ty 1=false/\bx.sz=2/\bx.pm=true:=by
 unfold getMap at h;split at h
 . split at h
   . rename_i hb hc;cases h;exact ⟨hb,hc⟩
   . simp at h
 . simp at h
theorem xCf (hR:HR w A M B H) {v:Value} {n ver i j:Nat} {bx:Box} (h:Rel w A M v (.own (.b n) ver i j)) (hb:getMap H n ver=some bx) :
  ∃ m,M (.b n)=some m/\BoxAt w A M B (.b n) m bx/\v=.map (some m.b)/\0<m.cap:=by
 obtain ⟨J,O,q,_⟩:=xkC hb;obtain ⟨m,hm,hv,h1,he⟩:=Rel.own_inv h;obtain ⟨bx',h2,h3⟩:=hR.box _ m hm;rw [xba,J] at h2;cases h2;refine ⟨m,hm,h3,?_⟩;have Q:xLn m.ty=true:=by
  rw [<-h3.ty];unfold rty;split
  . rw [q];exact q
  . exact q
 have h0:=he (by rw [<-O,h3.ver])
 unfold ptrOf at h0;rw [Q] at h0;cases hc:m.cap with
 | zero =>
  rw [hc] at h0;simp only at h0;rw [h0] at h1;cases h1
 | succ k =>
  rw [hc] at h0;exact ⟨h0,Nat.succ_pos k⟩
end
theorem xuO {s:List UInt8} {v:AV} (h:v.one=true):(AV.agg [.str s,v]).okElem 2=true:=by
 show (true&&(true&&(v.one&&true)))=true;rw [h];rfl
theorem xgi {P:Program} {k:TypeId} (hk:P.underlying k=some .string) {t:ByteArray} (ht:t.size<=maxLen):keyOf P k (.string t)=some (.string t.data.toList):=by
 simp [keyOf,hk,mapKey,ht]
theorem xjI {t:ByteArray} (h:t.data.toList.length<=xL9):t.size<=maxLen:=by
 rw [xlB];unfold xL9 at h;unfold maxLen;omega
section
variable {P : Program} {w : World} {A : Nat -> Prop} {M : Id -> Option MB} {B : Nat} {H : List Box}
theorem xAs (hR:HR w A M B H) {ρc:Operand->Value} {t:TypeId} {om ok:Operand} {c:Bool} {xm xk r:AV} (hm:Rel w A M (ρc om) xm) (hk:Rel w A M (ρc ok) xk) (h:absLookM P H t xm xk c=some r) :
  ∃ v,(Instr.lookup t (ρc om) (ρc ok) c).run P w=.ok v w/\Rel w A M v r:=by
 unfold absLookM at h;split at h
 case h_2=>simp at h
 rename_i n ver i j s kt et am;split at h
 case h_2=>simp at h
 rename_i te bx Q aj U;split at h
 case isFalse=>simp at h
 rename_i ae;simp only [z1] at h;obtain ⟨m,an,Z,ak,af⟩:=xCf hR hm U;obtain ⟨ao,aq,aa,ac,ah,ag,ad⟩:=xkC U;obtain ⟨es,clock,J,_⟩:=Z.mapAt aa ac ah ag ad af;obtain ⟨t0,al,ab⟩:=hk.str_inv;subst ab;have O:∀ x∈es.toList,∃ l,keyOf P kt x.key=some l:=fun x hx=>by
  obtain ⟨k,Y,rfl⟩:=zo.1 hx;simp only [Array.length_toList] at Y;obtain ⟨t',h1,_,h3⟩:=J.keys k es[k] (by simp [Y])
  exact ⟨.string t'.data.toList,by simp only [Array.getElem_toList];rw [h1];exact xgi Q h3⟩
 obtain ⟨z,hz,ai⟩:=xvc aj w;have W:Rel w A M z te.zero:=by rw [ai];exact xce w A M z
 rw [ak,al,<-h];rcases xAu c (Maps.string_keyed Q) am hz J.heap O (kl:=.string t0.data.toList) (xgi Q (xjI ae)) with ⟨h1,h2⟩|⟨j0,e0,h1,h2,h3⟩
 . have q:=J.miss h2;refine ⟨_,h1,?_⟩;cases c
   . simpa [xLE,q] using W
   . simp only [xLE,xLQ,q,if_true,Option.isSome];exact .tuple #[z,.bool false] _ rfl fun i hi=>by
      rcases i with _|_|i
      . exact W
      . exact .bool false
      . simp at hi;omega
 . obtain ⟨q,ap⟩:=J.hit h1 h2;have hv:=(J.vals j0 e0 (by simpa using h1)).lift M
   refine ⟨_,h3,?_⟩;cases c
   . simpa [xLE,q] using hv
   . simp only [xLE,xLQ,q,if_true,Option.isSome];exact .tuple #[e0.val,.bool true] _ rfl fun i hi=>by
      rcases i with _|_|i
      . exact hv
      . exact .bool true
      . simp at hi;omega
theorem xC5 (hR:HR w A M B H) {o:Oper} {ρc:Operand->Value} {t:TypeId} {om ok:Operand} {c:Bool} {xm xk r:AV} (ho:o.op=.lookup t om ok c) (hm:Rel w A M (ρc om) xm) (hk:Rel w A M (ρc ok) xk) (h:absLookM P H t xm xk c=some r) :
  Writes P o ρc w A M B r H:=by
 obtain ⟨v,h1,h2⟩:=xAs hR hm hk h;exact ⟨.value v,w,A,M,v,by simp only [execOp,ho,Sem.run_bind,h1,Result.andThen_ok,Sem.run_pure],.inl rfl,Below.refl _ _,MExt.refl M,fun _ _=>Iff.rfl,fun _ _ _=>rfl,⟨fun _ _ _=>rfl,fun id m' h h0=>.inl ⟨id,m',h,h0,rfl⟩⟩,hR,h2⟩
theorem xyn (hR:HR w A M B H) {ρc:Operand->Value} {t:TypeId} {om ok:Operand} {c:Bool} {xm xk r:AV} (hm:Rel w A M (ρc om) xm) (hk:Rel w A M (ρc ok) xk) (h:absLookL P H t xm xk c=some r) :
  ∃ v,(Instr.lookup t (ρc om) (ρc ok) c).run P w=.ok v w/\Rel w A M v r:=by
 unfold absLookL at h;split at h
 case h_2=>simp at h
 rename_i n ver i j s kt et Y;split at h
 case h_2=>simp at h
 rename_i e2 te bx W aa U O;split at h
 case h_2=>simp at h
 rename_i J hz Z;split at h
 case isFalse=>simp at h
 rename_i hc;obtain ⟨Q,q⟩:=hc;simp only [z1] at h;have hx:∀ v,Rel w A M v (xLE .nils bx.xs s)->Rel w A M v (.list J.sz (lookL bx.xs s)):=fun v hv=>by
  unfold xLQ xLE at q;unfold xLE at hv;unfold lookL;cases hi:mapIx bx.xs s with
  | none =>
   rw [hi] at hv;simp only at hv |-;generalize hn:AV.nils=x at hv;cases hv<;>first|(cases hn;done)|skip
   . exact .list0 none 0 J.sz
  | some i =>
   rw [hi] at hv q;simp only [zj,Bool.not_true,Bool.false_or] at hv q |-;obtain ⟨ys,hy⟩:=xdx q;rw [hy] at hv |-;exact hv
 have hM:∀ c,absLookM P H t (.own (.b n) ver i j) (.str s) c=some (match c with
   | true=>.tuple [xLE te.zero bx.xs s,.bool (xLQ bx.xs s)]
   | false=>xLE te.zero bx.xs s):=fun c=>by
  unfold absLookM;simp only [Y,W,U,O];exact if_pos Q
 obtain ⟨v,h1,h2⟩:=xAs hR hm hk (hM c);refine ⟨v,h1,?_⟩;rw [<-h];rw [hz] at h2;cases c with
 | false=>exact hx v h2
 | true =>
  simp only at h2 |-;obtain ⟨vs,rfl,hl,hr⟩:=h2.tuple_inv;refine .tuple vs _ (by simpa using hl) fun i hi=>?_
  rcases i with _|_|i
  . exact hx _ (hr 0 (by simp))
  . exact hr 1 (by simp)
  . simp at hi;omega
theorem xBs (hR:HR w A M B H) {o:Oper} {ρc:Operand->Value} {t:TypeId} {om ok:Operand} {c:Bool} {xm xk r:AV} (ho:o.op=.lookup t om ok c) (hm:Rel w A M (ρc om) xm) (hk:Rel w A M (ρc ok) xk) (h:absLookL P H t xm xk c=some r) :
  Writes P o ρc w A M B r H:=by
 obtain ⟨v,h1,h2⟩:=xyn hR hm hk h;exact ⟨.value v,w,A,M,v,by simp only [execOp,ho,Sem.run_bind,h1,Result.andThen_ok,Sem.run_pure],.inl rfl,Below.refl _ _,MExt.refl M,fun _ _=>Iff.rfl,fun _ _ _=>rfl,⟨fun _ _ _=>rfl,fun id m' h h0=>.inl ⟨id,m',h,h0,rfl⟩⟩,hR,h2⟩
theorem xwA {xs:List AV} {s:List UInt8} {v:AV}:xs.length<=(xLC xs s v).length/\(xLC xs s v).length<=xs.length+1:=by
 unfold xLC;split<;>simp
theorem xDd (hR:HR w A M B H) {o:Oper} {ρc:Operand->Value} {t:TypeId} {om ok ov:Operand} {xm xk xv:AV} {H':List Box} (ho:o.op=.mapUpdate t om ok ov\/o.op=.insert t om ok ov) (hm:Rel w A M (ρc om) xm) (hk:Rel w A M (ρc ok) xk) (hv:Rel w A M (ρc ov) xv) (h:absPutM P H t xm xk xv=some H') :
  Writes P o ρc w A M B (.tuple []) H':=by
 unfold absPutM at h;split at h
 case h_2=>simp at h
 rename_i n ver i j s kt et bc;split at h
 case h_2=>simp at h
 rename_i bx ap a4;split at h
 case isFalse=>simp at h
 rename_i bf;obtain ⟨ax,aj,am,af,ag⟩:=bf;cases h;obtain ⟨m,ah,O,bb,ab⟩:=xCf hR hm a4;obtain ⟨a6,bh,ac,al,ar,a5,bk⟩:=xkC a4;obtain ⟨es,clock,W,hcap⟩:=O.mapAt ac al ar a5 bk ab;obtain ⟨t0,bg,a9⟩:=hk.str_inv;subst a9;have aq:∀ x∈es.toList,∃ l,keyOf P kt x.key=some l:=fun x hx=>by
  obtain ⟨k,a8,rfl⟩:=zo.1 hx;simp only [Array.length_toList] at a8;obtain ⟨t',h1,_,h3⟩:=W.keys k es[k] (by simp [a8])
  exact ⟨.string t'.data.toList,by simp only [Array.getElem_toList];rw [h1];exact xgi ap h3⟩
 have au:Rel w A xLz (ρc ov) xv:=hv.pure am;have hsz:m.sz=2:=by rw [<-O.sz];exact a5
 have hsz':bx.xs.length=es.size:=W.size.symm;have hA:A m.b:=(O.guard ab).1 ax;have aw:∃ J Q q,(Instr.mapUpdate t (ρc om) (ρc ok) (ρc ov)).run P w=.ok () (ChangeMaps.setBlock w m.b (.map Q q))/\MapP Q J q/\J.size=(xLC bx.xs t0.data.toList xv).length /\
   (∀ (k:Nat) (x:MapEntry),J[k]?=some x->∃ t:ByteArray,x.key=.string t/\((xLC bx.xs t0.data.toList xv).getD k .top).cells.getD 0 .top=.str t.data.toList/\t.size<=maxLen) /\
   (∀ (k:Nat) (x:MapEntry),J[k]?=some x->Rel w A xLz x.val (((xLC bx.xs t0.data.toList xv).getD k .top).cells.getD 1 .top)) /\
   (∀ (k l:Nat) (x y:MapEntry),J[k]?=some x->J[l]?=some y->x.key=y.key->k=l):=by
  rw [bb,bg];rcases xCb (val:=ρc ov) (Maps.string_keyed ap) bc W.heap W.apart aq (kl:=.string t0.data.toList) (xgi ap (xjI ag)) with ⟨⟨Q,h1,hP⟩,h2⟩|⟨j0,e0,h1,h2,J,Q,h3,h4,hP⟩
  . have an:=W.miss h2;have hp:xLC bx.xs t0.data.toList xv=bx.xs++[.agg [.str t0.data.toList,xv]]:=by unfold xLC;rw [an]
    have U:∀ (k:Nat) (x:MapEntry),(es.push ⟨.string t0,ρc ov,clock⟩)[k]?=some x->(k<es.size/\es[k]?=some x)\/(k=es.size/\x=⟨.string t0,ρc ov,clock⟩):=fun k x hx=>by
     rw [Array.getElem?_push] at hx;split at hx
     . rename_i e;simp only [z1] at hx;exact .inr ⟨e,hx.symm⟩
     . rcases zI k es.size with h|h
       . exact .inl ⟨h,hx⟩
       . simp [Array.getElem?_eq_none h] at hx
    refine ⟨_,_,_,h1,hP,by rw [hp];simp [hsz'],fun k x hx=>?_,fun k x hx=>?_,fun k l x y hx hy e=>?_⟩
    . rw [hp];rcases U k x hx with ⟨g1,g2⟩|⟨rfl,rfl⟩
      . obtain ⟨t',a1,a2,a3⟩:=W.keys k x g2;refine ⟨t',a1,?_,a3⟩;rw [<-a2];simp [z6,zO,hsz',g1]
      . exact ⟨t0,rfl,by simp [z6,<-hsz',AV.cells],xjI ag⟩
    . rw [hp];rcases U k x hx with ⟨g1,g2⟩|⟨rfl,rfl⟩
      . have:=W.vals k x g2;simpa [z6,zO,hsz',g1] using this
      . simpa [z6,<-hsz',AV.cells] using au
    . rcases U k x hx with ⟨g1,g2⟩|⟨rfl,rfl⟩<;>rcases U l y hy with ⟨g3,g4⟩|⟨rfl,rfl⟩
      . exact W.apart k l x y g2 g4 e
      . exact absurd e (h2 x (List.mem_of_getElem? (by simpa using g2)))
      . exact absurd e.symm (h2 y (List.mem_of_getElem? (by simpa using g4)))
      . rfl
  . obtain ⟨an,a7⟩:=W.hit h1 h2;have hp:xLC bx.xs t0.data.toList xv=bx.xs.set j0 (.agg [.str t0.data.toList,xv]):=by unfold xLC;rw [an]
    have U:∀ (k:Nat) (x:MapEntry),J[k]?=some x->(k≠j0/\es[k]?=some x)\/(k=j0/\x={ e0 with key:=.string t0,val:=ρc ov }):=fun k x hx=>by
     rw [<-Array.getElem?_toList,h3,List.getElem?_set] at hx;split at hx
     . rename_i e;subst e;split at hx
       . simp only [z1] at hx;exact .inr ⟨rfl,hx.symm⟩
       . simp at hx
     . rename_i e;exact .inl ⟨fun e'=>e e'.symm,by simpa using hx⟩
    refine ⟨_,_,_,h4,hP,by rw [hp,<-Array.length_toList,h3];simp [hsz'],fun k x hx=>?_,fun k x hx=>?_,fun k l x y hx hy e=>?_⟩
    . rw [hp];rcases U k x hx with ⟨g1,g2⟩|⟨rfl,rfl⟩
      . obtain ⟨t',a1,a2,a3⟩:=W.keys k x g2;refine ⟨t',a1,?_,a3⟩;rw [<-a2];simp [z6,List.getElem?_set,show ¬ j0=k from fun e=>g1 e.symm]
      . exact ⟨t0,rfl,by simp [z6,a7,AV.cells],xjI ag⟩
    . rw [hp];rcases U k x hx with ⟨g1,g2⟩|⟨rfl,rfl⟩
      . have:=W.vals k x g2;simpa [z6,List.getElem?_set,show ¬ j0=k from fun e=>g1 e.symm] using this
      . simpa [z6,a7,AV.cells] using au
    . have bn:es[j0]?=some e0:=by simpa using h1
      have az:∀ (k:Nat) (x:MapEntry),J[k]?=some x->∃ y:MapEntry,es[k]?=some y/\y.key=x.key:=fun k x hx=>by
       rcases U k x hx with ⟨g1,g2⟩|⟨rfl,rfl⟩
       . exact ⟨x,g2,rfl⟩
       . exact ⟨e0,bn,h2⟩
      obtain ⟨x',a1,a2⟩:=az k x hx;obtain ⟨y',b1,b2⟩:=az l y hy;exact W.apart k l x' y' a1 b1 (by rw [a2,b2,e])
 obtain ⟨J,Q,q,r1,rP,r2,r3,r4,r5⟩:=aw;have bo:=xwA (xs:=bx.xs) (s:=t0.data.toList) (v:=xv);have a0:MapB (ChangeMaps.setBlock w m.b (.map Q q)) m.b J q:=⟨Q,by simp [ChangeMaps.setBlock,O.lt ab],rP⟩
 have aa:∀ b,b≠m.b->(ChangeMaps.setBlock w m.b (.map Q q)).heap[b]?=w.heap[b]?:=fun b hb=>by
  simp [ChangeMaps.setBlock,Array.getElem?_setIfInBounds,Ne.symm hb]
 have ad:(ChangeMaps.setBlock w m.b (.map Q q)).heap.size=w.heap.size:=by simp [ChangeMaps.setBlock]
 have Z:∀ b,b<w.heap.size->¬ A b->(ChangeMaps.setBlock w m.b (.map Q q)).heap[b]?=w.heap[b]?:=fun b _ hb=>aa b fun e=>hb (e▸hA)
 have ak:n<H.length:=xcy a6;have hR':HR (ChangeMaps.setBlock w m.b (.map Q q)) A M B (H.set n ⟨ver,2,bx.ty,xLC bx.xs t0.data.toList xv,false,true⟩):=by
  refine hR.rebuild (fun k=>k=n) (fun k hk _=>zW (fun e=>hk e.symm)) (fun _ _=>rfl) (fun x m0 hx h0 c0=>⟨aa _ fun e=>hx ?_,fun h=>h⟩) Z (by rw [ad];exact zb _) (fun _ _ h=>h) (MExt.refl M) (fun x m0 hx h0=>?_) (fun x m1 x' m2 _ h1 h2 c1 c2 he=>hR.inj x x' m1 m2 h1 h2 c1 c2 he) (fun b hb=>by rw [ad];exact hR.lt b hb)
  . have:=hR.inj x (.b n) m0 m h0 ah c0 ab e;rw [this];rfl
  . cases x with
    | b k =>
     have hx:k=n:=hx;subst hx;rw [ah] at h0;cases h0;have be:xLn m.ty=true:=by
      rw [<-O.ty];unfold rty;split
      . rw [ac];exact ac
      . exact ac
     refine ⟨⟨ver,2,bx.ty,xLC bx.xs t0.data.toList xv,false,true⟩,by rw [xba];exact zK ak,bh.symm.trans O.ver,hsz.symm,O.ty,O.capm,?_,fun y hy=>?_,O.low,fun h0=>by rw [ad];exact O.lt h0,fun h0=>?_,fun _=>⟨fun _=>hA,fun _=>rfl⟩⟩
     . show (xLC bx.xs t0.data.toList xv).length<=m.cap;rw [hcap];unfold xL9 at af;unfold maxLen;omega
     . rw [hsz];have Y:(AV.agg [.str t0.data.toList,xv]).okElem 2=true:=xuO aj;have hy:y∈xLC bx.xs t0.data.toList xv:=hy;unfold xLC at hy;split at hy
       . rcases List.mem_or_eq_of_mem_set hy with hy|rfl
         . rw [<-hsz];exact O.ok y hy
         . exact Y
       . rcases zF.1 hy with hy|hy
         . rw [<-hsz];exact O.ok y hy
         . simp only [zu] at hy;subst hy;exact Y
     . let c':Array Value:=Array.ofFn (n:=maxLen*2) fun k=>match J[k.val / 2]? with
        | some x=>if k.val % 2=0 then x.key else x.val
        | none=>undef
       have bp:J.size<=maxLen:=by
        rw [r2];unfold xL9 at af;unfold maxLen;omega
       have bj:∀ (k:Nat) (x:MapEntry),J[k]?=some x->k<J.size:=fun k x hx=>by
        rcases zI k J.size with h|h
        . exact h
        . simp [Array.getElem?_eq_none h] at hx
       have hc':∀ (k:Nat) (x:MapEntry),J[k]?=some x->c'.getD (k*m.sz) undef=x.key/\c'.getD (k*m.sz+1) undef=x.val:=fun k x hx=>by
        have hk:=bj k x hx;rw [hsz];have e1:k*2<maxLen*2:=by omega
        have e2:k*2+1<maxLen*2:=by omega
        constructor
        . rw [zt,Array.getElem?_ofFn,dif_pos e1];simp only [zg,Nat.mul_div_cancel _ (by omega:0<2),hx,Nat.mul_mod_left,if_true]
        . rw [zt,Array.getElem?_ofFn,dif_pos e2];have d1:(k*2+1) / 2=k:=by omega
          have d2:¬ (k*2+1) % 2=0:=by omega
          simp only [zg,d1,hx,d2,if_false]
       refine ⟨c',?_,by rw [hcap,hsz];exact Array.size_ofFn,fun i j hi hj=>?_⟩
       . unfold HoldsC;rw [be];exact ⟨J,q,a0,r2,hcap,hc',fun k x hx=>by obtain ⟨t',a1,_,a3⟩:=r3 k x hx;exact ⟨t',a1,a3⟩,r5⟩
       . have hi':i<J.size:=by rw [r2];exact hi
         obtain ⟨x,hx⟩:∃ x,J[i]?=some x:=⟨J[i],by simp [hi']⟩
         rw [hsz] at hj;have ag:∀ j,j<2->xLm bx.ty j=false:=fun j hj=>by
          rcases j with _|_|j
          . exact al
          . exact ar
          . omega
         unfold MV xLK;simp only [ag j hj];show Rel _ A xLz _ _;have ao:∀ {v:Value} {x:AV},Rel w A xLz v x->Rel (ChangeMaps.setBlock w m.b (.map Q q)) A xLz v x:=fun h=>h.mono Z (by rw [ad];exact zb _) (fun _ _ h=>h) (MExt.refl _)
         rcases j with _|_|j
         . rw [Nat.add_zero,(hc' i x hx).1];obtain ⟨t',a1,a2,_⟩:=r3 i x hx;show Rel _ A xLz _ (((xLC bx.xs t0.data.toList xv).getD i .top).cells.getD 0 .top);rw [a1,a2];exact .str t'
         . rw [(hc' i x hx).2];exact ao (r4 i x hx)
         . omega
    | r k i' j' =>
     have hx:k=n:=hx;subst hx;obtain ⟨rb,k1,k2⟩:=hR.box _ m0 h0;have ay:isC bx.ty=true:=by
      cases hc:isC bx.ty with
      | true=>rfl
      | false=>rw [xau hc] at ac;cases ac
     obtain ⟨e2,e3,e4,e5⟩:=xf8 a6 ay k1;have bq:2<=j':=by
      rcases j' with _|_|j'
      . rw [al] at e2;cases e2
      . rw [ar] at e2;cases e2
      . omega
     have ai:∀ (xs:List AV),(∀ x,x∈xs->x.okElem 2=true)->(xs.getD i' .top).cells.getD j' .top=.top:=fun xs ba=>by
      rcases zI i' xs.length with h|h
      . have:=xan (ba _ (xat h));rw [z6 (l:=(xs.getD i' .top).cells),zy (by omega)];rfl
      . have:xs.getD i' .top=.top:=by rw [z6,zy h];rfl
        rw [this,z6,zy (by simp [AV.cells];omega)];rfl
     have ae:∀ x,x∈bx.xs->x.okElem 2=true:=fun x hx=>by rw [<-hsz];exact O.ok x hx
     refine ⟨rb,?_,k2.mono (fun bi=>aa _ fun e=>?_) Z (by rw [ad];exact zb _) (fun _ _ h=>h) k2.guard (MExt.refl M)⟩
     . rw [xdi (zK ak) (by exact ay) (by exact e2) rfl (by show i'<(xLC bx.xs t0.data.toList xv).length;omega)]
       rw [e5,ai bx.xs ae];have Y:((xLC bx.xs t0.data.toList xv).getD i' .top).cells.getD j' .top=.top:=ai _ fun y hy=>by
        have Y:(AV.agg [.str t0.data.toList,xv]).okElem 2=true:=xuO aj;unfold xLC at hy;split at hy
        . rcases List.mem_or_eq_of_mem_set hy with hy|rfl
          . exact ae y hy
          . exact Y
        . rcases zF.1 hy with hy|hy
          . exact ae y hy
          . simp only [zu] at hy;subst hy;exact Y
       have e6:xLN ⟨ver,2,bx.ty,xLC bx.xs t0.data.toList xv,false,true⟩ .top=xLN bx .top:=by simp [xLN,ax]
       exact congrArg some ((congrArg (xLN ⟨ver,2,bx.ty,xLC bx.xs t0.data.toList xv,false,true⟩) Y).trans e6)
     . have:=hR.inj _ (.b k) m0 m h0 ah bi ab e;cases this
 refine ⟨.skip,ChangeMaps.setBlock w m.b (.map Q q),A,M,undef,?_,.inr ⟨rfl,rfl⟩,⟨rfl,rfl,rfl,by rw [ad];exact zb _,fun k hk=>aa k fun e=>by have:=O.low ab;omega⟩,MExt.refl M,fun _ _=>Iff.rfl,Z,⟨fun b _ hb=>aa b fun e=>hb (.b n) m ah ab e.symm,fun id m' h h0=>.inl ⟨id,m',h,h0,rfl⟩⟩,hR',.tuple #[] [] rfl (by simp)⟩
 rcases ho with ho|ho<;>simp only [execOp,ho,Sem.run_bind,r1,Result.andThen_ok,Sem.run_pure]
def getMapR (H:List Box) (n:Nat) (ver:Nat):Option Box:=match H[n]? with
 | some bx=>if bx.ver=ver/\xLn bx.ty=true/\xLm bx.ty 0=false/\xLm bx.ty 1=true/\bx.sz=2/\bx.pm=true then some bx else none
 | none=>none
theorem xjp {H:List Box} {n ver:Nat} {bx:Box} (h:getMapR H n ver=some bx):H[n]?=some bx/\bx.ver=ver/\xLn bx.ty=true/\xLm bx.ty 0=false/\xLm bx.ty 1=true/\bx.sz=2/\bx.pm=true:=by
 unfold getMapR at h;split at h
 . split at h
   . rename_i hb hc;cases h;exact ⟨hb,hc⟩
   . simp at h
 . simp at h
structure MapKs (w:World) (m:MB) (xs:List AV) (es:Array MapEntry) (clock:Nat):Prop where
 heap:MapB w m.b es clock
 size:es.size=xs.length
 keys:∀ (k:Nat) (x:MapEntry),es[k]?=some x->∃ t:ByteArray,x.key=.string t/\(xs.getD k .top).cells.getD 0 .top=.str t.data.toList/\t.size<=maxLen
 apart:∀ (k l:Nat) (x y:MapEntry),es[k]?=some x->es[l]?=some y->x.key=y.key->k=l
theorem MapKs.miss {w:World} {m:MB} {xs:List AV} {es:Array MapEntry} {clock:Nat} (h:MapKs w m xs es clock) {t:ByteArray} (q:∀ x∈es.toList,x.key≠.string t):mapIx xs t.data.toList=none :=
 xph fun i hi=>by
  have hi':i<es.size:=by rw [h.size];exact hi
  obtain ⟨t',h1,h2,_⟩:=h.keys i es[i] (by simp [hi'])
  rw [h2];show (t'.data.toList==t.data.toList)=false;rw [beq_eq_false_iff_ne];intro e;exact q es[i] (by simp) (by rw [h1,xqA e])
theorem MapKs.hit {w:World} {m:MB} {xs:List AV} {es:Array MapEntry} {clock:Nat} (h:MapKs w m xs es clock) {t:ByteArray} {j:Nat} {e0:MapEntry} (hj:es.toList[j]?=some e0) (hk:e0.key=.string t):mapIx xs t.data.toList=some j/\j<xs.length:=by
 have q:es[j]?=some e0:=by simpa using hj
 have hj':j<es.size:=by
  rcases zI j es.size with h|h
  . exact h
  . simp [Array.getElem?_eq_none h] at q
 have J:j<xs.length:=by rw [<-h.size];exact hj'
 refine ⟨xse J ?_ fun i hi=>?_,J⟩
 . obtain ⟨t',h1,h2,_⟩:=h.keys j e0 q;rw [h2];rw [hk] at h1;injection h1 with h1;rw [h1];show (t'.data.toList==t'.data.toList)=true;exact beq_self_eq_true _
 . have hi':i<es.size:=by omega
   obtain ⟨t',h1,h2,_⟩:=h.keys i es[i] (by simp [hi'])
   rw [h2];show (t'.data.toList==t.data.toList)=false;rw [beq_eq_false_iff_ne];intro e;have:=h.apart i j es[i] e0 (by simp [hi']) q (by rw [h1,hk,xqA e])
   omega
theorem xl1 {t:TypeId} (h:xLn t=true):xLn (rty t)=true:=by
 unfold rty;split
 . rw [h];exact h
 . exact h
theorem BoxAt.mapKs {w:World} {A:Nat->Prop} {M:Id->Option MB} {B:Nat} {id:Id} {m:MB} {bx:Box} (h:BoxAt w A M B id m bx) (hm:xLn bx.ty=true) (h0:xLm bx.ty 0=false) (hs:bx.sz=2) (hp:bx.pm=true) (hcap:0<m.cap) :
  ∃ es clock,MapKs w m bx.xs es clock/\m.cap=maxLen/\∀ (k:Nat) (x:MapEntry),es[k]?=some x->Rel w A (MV M bx 1) x.val (xLK id.base k 1 bx.ty ((bx.xs.getD k .top).cells.getD 1 .top)):=by
 obtain ⟨c,c1,c2,c3⟩:=h.cells hcap;have O:xLn m.ty=true:=by rw [<-h.ty];exact xl1 hm
 unfold HoldsC at c1;rw [O] at c1;obtain ⟨es,clock,d1,d2,d3,d4,d5,d6⟩:=c1;have hsz:m.sz=2:=by rw [<-h.sz];exact hs
 have q:∀ (k:Nat) (x:MapEntry),es[k]?=some x->k<bx.xs.length:=fun k x hx=>by
  rw [<-d2];rcases zI k es.size with h|h
  . exact h
  . simp [Array.getElem?_eq_none h] at hx
 refine ⟨es,clock,⟨d1,d2,fun k x hx=>?_,d6⟩,d3,fun k x hx=>?_⟩
 . obtain ⟨t,ht,J⟩:=d5 k x hx;have hk:=q k x hx;have h4:=c3 k 0 hk (by rw [hsz];omega)
   unfold MV xLK at h4;simp only [h0,hp] at h4;rw [Nat.add_zero,(d4 k x hx).1,ht] at h4;exact ⟨t,ht,xvW h4 (xyw h.ok hk (by rw [hsz];omega)) (fun id ver i j e=>by rw [e] at h4;obtain ⟨_,hh,_⟩:=Rel.own_inv h4;cases hh) (fun id ver i j e=>by rw [e] at h4;obtain ⟨_,hh,_⟩:=Rel.osl_inv h4;cases hh),J⟩
 . have h4:=c3 k 1 (q k x hx) (by rw [hsz];omega)
   rw [(d4 k x hx).2] at h4;exact h4
def absLookR (P:Program) (H:List Box) (t:TypeId) (m k:AV) (c:Bool):Option AV:=match m,k,P.underlying t with
 | .own (.b n) ver _ _,.str s,some (.map kt et)=>match P.underlying kt,xLk P et,getMapR H n ver with
  | some .string,some te,some bx=>if s.length<=xL9 then some (match mapIx bx.xs s with
   | some i=>match c with
    | true=>.tuple [xMp n i 1 ((bx.xs.getD i .top).cells.getD 1 .top),.bool true]
    | false=>xMp n i 1 ((bx.xs.getD i .top).cells.getD 1 .top)
   | none=>match c with
    | true=>.tuple [te.zero,.bool false]
    | false=>te.zero) else none
  | _,_,_=>none
 | _,_,_=>none
theorem lookLR {P:Program} {H:List Box} {t:TypeId} {m k r:AV} {c:Bool} (h:absLookR P H t m k c=some r):absLookL P H t m k c=none:=by
 cases hl:absLookL P H t m k c with
 | none=>rfl
 | some r' =>
  exfalso;obtain ⟨n,ver,i,j,bx,rfl,hb⟩:=xsI hl;obtain ⟨b1,b2,b3,b4,b5,_⟩:=xkC hb;unfold absLookR at h;split at h
  case h_2=>simp at h
  rename AV.own (Id.b n) ver i j=_=>heq
  cases heq;split at h
  case h_2=>simp at h
  rename_i q;obtain ⟨c1,c2,c3,c4,c5,_⟩:=xjp q;rw [b1] at c1;cases c1;rw [b5] at c5;cases c5
def deadR (xs:List AV) (s:List UInt8) (n:Nat):Bool:=match mapIx xs s with
 | some i=>match deadLen ((xs.getD i .top).cells.getD 1 .top) with
  | some l0=>decide (l0<n)
  | none=>false
 | none=>true
def absPutR (P:Program) (H:List Box) (t:TypeId) (m k v:AV):Option (List Box):=match m,k,v,P.underlying t with
 | .own (.b n) ver _ _,.str s,.osl (.b id) ver2 off len,some (.map kt _)=>match P.underlying kt,getMapR H n ver,xLo H (.b id) ver2 with
  | some .string,some bx,some b2=>if bx.frz=false/\b2.frz=false/\b2.pm=true/\isC b2.ty=false/\b2.ty=rowTy bx.ty/\off=0/\len=b2.xs.length/\bx.xs.length<xL9/\s.length<=xL9/\deadR bx.xs s len=true then
   some ((H.set id ⟨ver2+1,b2.sz,b2.ty,[],false,true⟩).set n ⟨ver,2,bx.ty,xLC bx.xs s (.list b2.sz b2.xs),false,true⟩) else none
  | _,_,_=>none
 | _,_,_,_=>none
theorem xsc:∀ {xs:List AV} {s:List UInt8} {i:Nat},mapIx xs s=some i->i<xs.length
 | [],s,i,h=>by simp [mapIx] at h
 | e::es,s,i,h=>by
  simp only [mapIx] at h;split at h
  . cases h;simp
  . cases hm:mapIx es s with
    | none=>rw [hm] at h;simp at h
    | some j =>
     rw [hm] at h;simp only [Option.map_some,z1] at h;have:=xsc hm;subst h;simp;omega
def putIx (xs:List AV) (s:List UInt8):Nat:=match mapIx xs s with
 | some i=>i
 | none=>xs.length
theorem xsf {xs:List AV} {s:List UInt8} {v:AV} (k:Nat):(xLC xs s v).getD k .top=if k=putIx xs s then .agg [.str s,v] else xs.getD k .top:=by
 unfold xLC putIx;cases h:mapIx xs s with
 | some i =>
  have:=xsc h;by_cases hk:k=i
  . subst hk;simp [z6,this]
  . simp [z6,List.getElem?_set,hk,show ¬ i=k from fun e=>hk e.symm]
 | none =>
  by_cases hk:k=xs.length
  . subst hk;simp [z6]
  . simp only [hk,if_false];rcases zI k xs.length with g|g
    . simp [z6,zO,g]
    . rw [z6,z6,zy (by simp;omega),zy g]
theorem xGn {xs:List AV} {s:List UInt8} {v:AV}:putIx xs s<(xLC xs s v).length:=by
 unfold xLC putIx;cases h:mapIx xs s with
 | some i=>have:=xsc h;simpa using this
 | none=>simp
section
variable {P : Program} {w : World} {A : Nat -> Prop} {M : Id -> Option MB} {B : Nat} {H : List Box}
theorem xAB (hR:HR w A M B H) {v:Value} {n ver i j:Nat} {bx:Box} (h:Rel w A M v (.own (.b n) ver i j)) (hb:getMapR H n ver=some bx) :
  ∃ m,M (.b n)=some m/\BoxAt w A M B (.b n) m bx/\v=.map (some m.b)/\0<m.cap:=by
 obtain ⟨J,O,q,_⟩:=xjp hb;obtain ⟨m,hm,hv,h1,he⟩:=Rel.own_inv h;obtain ⟨bx',h2,h3⟩:=hR.box _ m hm;rw [xba,J] at h2;cases h2;refine ⟨m,hm,h3,?_⟩;have Q:xLn m.ty=true:=by rw [<-h3.ty];exact xl1 q
 have h0:=he (by rw [<-O,h3.ver])
 unfold ptrOf at h0;rw [Q] at h0;cases hc:m.cap with
 | zero =>
  rw [hc] at h0;simp only at h0;rw [h0] at h1;cases h1
 | succ k =>
  rw [hc] at h0;exact ⟨h0,Nat.succ_pos k⟩
theorem xyo (hR:HR w A M B H) {ρc:Operand->Value} {t:TypeId} {om ok:Operand} {c:Bool} {xm xk r:AV} (hm:Rel w A M (ρc om) xm) (hk:Rel w A M (ρc ok) xk) (h:absLookR P H t xm xk c=some r) :
  ∃ v,(Instr.lookup t (ρc om) (ρc ok) c).run P w=.ok v w/\Rel w A M v r:=by
 unfold absLookR at h;split at h
 case h_2=>simp at h
 rename_i n ver i j s kt et an;split at h
 case h_2=>simp at h
 rename_i te bx Q ak W;split at h
 case isFalse=>simp at h
 rename_i af;simp only [z1] at h;obtain ⟨m,ao,aa,al,ag⟩:=xAB hR hm W;obtain ⟨ap,ar,ab,ad,ai,ah,ae⟩:=xjp W;obtain ⟨es,clock,q,_,U⟩:=aa.mapKs ab ad ah ae ag;obtain ⟨t0,am,ac⟩:=hk.str_inv;subst ac;have O:∀ x∈es.toList,∃ l,keyOf P kt x.key=some l:=fun x hx=>by
  obtain ⟨k,Z,rfl⟩:=zo.1 hx;simp only [Array.length_toList] at Z;obtain ⟨t',h1,_,h3⟩:=q.keys k es[k] (by simp [Z])
  exact ⟨.string t'.data.toList,by simp only [Array.getElem_toList];rw [h1];exact xgi Q h3⟩
 obtain ⟨z,hz,aj⟩:=xvc ak w;have Y:Rel w A M z te.zero:=by rw [aj];exact xce w A M z
 rw [al,am,<-h];rcases xAu c (Maps.string_keyed Q) an hz q.heap O (kl:=.string t0.data.toList) (xgi Q (xjI af)) with ⟨h1,h2⟩|⟨j0,e0,h1,h2,h3⟩
 . have J:=q.miss h2;refine ⟨_,h1,?_⟩;rw [J];cases c
   . simpa using Y
   . simp only [if_true];exact .tuple #[z,.bool false] _ rfl fun i hi=>by
      rcases i with _|_|i
      . exact Y
      . exact .bool false
      . simp at hi;omega
 . obtain ⟨J,aq⟩:=q.hit h1 h2;have hv:=(U j0 e0 (by simpa using h1)).unmv
   unfold xLK at hv;rw [ai] at hv;change Rel w A M e0.val (xMp n j0 1 ((bx.xs.getD j0 .top).cells.getD 1 .top)) at hv;refine ⟨_,h3,?_⟩;rw [J];cases c
   . simpa using hv
   . simp only [if_true];exact .tuple #[e0.val,.bool true] _ rfl fun i hi=>by
      rcases i with _|_|i
      . exact hv
      . exact .bool true
      . simp at hi;omega
theorem xBt (hR:HR w A M B H) {o:Oper} {ρc:Operand->Value} {t:TypeId} {om ok:Operand} {c:Bool} {xm xk r:AV} (ho:o.op=.lookup t om ok c) (hm:Rel w A M (ρc om) xm) (hk:Rel w A M (ρc ok) xk) (h:absLookR P H t xm xk c=some r) :
  Writes P o ρc w A M B r H:=by
 obtain ⟨v,h1,h2⟩:=xyo hR hm hk h;exact ⟨.value v,w,A,M,v,by simp only [execOp,ho,Sem.run_bind,h1,Result.andThen_ok,Sem.run_pure],.inl rfl,Below.refl _ _,MExt.refl M,fun _ _=>Iff.rfl,fun _ _ _=>rfl,⟨fun _ _ _=>rfl,fun id m' h h0=>.inl ⟨id,m',h,h0,rfl⟩⟩,hR,h2⟩
theorem MapKs.put {m:MB} {xs:List AV} {es:Array MapEntry} {clock:Nat} (O:MapKs w m xs es clock) {t kt et:TypeId} (ae:P.underlying t=some (.map kt et)) (aa:P.underlying kt=some .string) {t0:ByteArray} (Y:t0.data.toList.length<=xL9) (val:Value) (v:AV) :
  ∃ Q W clock',(Instr.mapUpdate t (.map (some m.b)) (.string t0) val).run P w=.ok () (ChangeMaps.setBlock w m.b (.map W clock'))/\MapP W Q clock'/\Q.size=(xLC xs t0.data.toList v).length /\
   (∀ (k:Nat) (x:MapEntry),Q[k]?=some x->∃ t:ByteArray,x.key=.string t/\((xLC xs t0.data.toList v).getD k .top).cells.getD 0 .top=.str t.data.toList/\t.size<=maxLen) /\
   (∀ (k l:Nat) (x y:MapEntry),Q[k]?=some x->Q[l]?=some y->x.key=y.key->k=l) /\
   (∀ (k:Nat) (x:MapEntry),Q[k]?=some x->(k≠putIx xs t0.data.toList/\es[k]?=some x)\/(k=putIx xs t0.data.toList/\x.val=val)):=by
 have hsz':xs.length=es.size:=O.size.symm;have Z:∀ x∈es.toList,∃ l,keyOf P kt x.key=some l:=fun x hx=>by
  obtain ⟨k,ab,rfl⟩:=zo.1 hx;simp only [Array.length_toList] at ab;obtain ⟨t',h1,_,h3⟩:=O.keys k es[k] (by simp [ab])
  exact ⟨.string t'.data.toList,by simp only [Array.getElem_toList];rw [h1];exact xgi aa h3⟩
 rcases xCb (val:=val) (Maps.string_keyed aa) ae O.heap O.apart Z (kl:=.string t0.data.toList) (xgi aa (xjI Y)) with ⟨⟨W,h1,hP⟩,h2⟩|⟨j0,e0,h1,h2,Q,W,h3,h4,hP⟩
 . have U:=O.miss h2;have J:putIx xs t0.data.toList=xs.length:=by unfold putIx;rw [U]
   have hp:(xLC xs t0.data.toList v).length=xs.length+1:=by unfold xLC;rw [U];simp
   have q:∀ (k:Nat) (x:MapEntry),(es.push ⟨.string t0,val,clock⟩)[k]?=some x->(k<es.size/\es[k]?=some x)\/(k=es.size/\x=⟨.string t0,val,clock⟩):=fun k x hx=>by
    rw [Array.getElem?_push] at hx;split at hx
    . rename_i e;simp only [z1] at hx;exact .inr ⟨e,hx.symm⟩
    . rcases zI k es.size with h|h
      . exact .inl ⟨h,hx⟩
      . simp [Array.getElem?_eq_none h] at hx
   refine ⟨_,_,_,h1,hP,by rw [hp];simp [hsz'],fun k x hx=>?_,fun k l x y hx hy e=>?_,fun k x hx=>?_⟩
   . rw [xsf,J];rcases q k x hx with ⟨g1,g2⟩|⟨rfl,rfl⟩
     . obtain ⟨t',a1,a2,a3⟩:=O.keys k x g2;exact ⟨t',a1,by rw [if_neg (by omega)];exact a2,a3⟩
     . exact ⟨t0,rfl,by rw [if_pos hsz'.symm];rfl,xjI Y⟩
   . rcases q k x hx with ⟨g1,g2⟩|⟨rfl,rfl⟩<;>rcases q l y hy with ⟨g3,g4⟩|⟨rfl,rfl⟩
     . exact O.apart k l x y g2 g4 e
     . exact absurd e (h2 x (List.mem_of_getElem? (by simpa using g2)))
     . exact absurd e.symm (h2 y (List.mem_of_getElem? (by simpa using g4)))
     . rfl
   . rcases q k x hx with ⟨g1,g2⟩|⟨rfl,rfl⟩
     . exact .inl ⟨by rw [J];omega,g2⟩
     . exact .inr ⟨by rw [J];exact hsz'.symm,rfl⟩
 . obtain ⟨U,af⟩:=O.hit h1 h2;have J:putIx xs t0.data.toList=j0:=by unfold putIx;rw [U]
   have hp:(xLC xs t0.data.toList v).length=xs.length:=by unfold xLC;rw [U];simp
   have q:∀ (k:Nat) (x:MapEntry),Q[k]?=some x->(k≠j0/\es[k]?=some x)\/(k=j0/\x={ e0 with key:=.string t0,val:=val }):=fun k x hx=>by
    rw [<-Array.getElem?_toList,h3,List.getElem?_set] at hx;split at hx
    . rename_i e;subst e;split at hx
      . simp only [z1] at hx;exact .inr ⟨rfl,hx.symm⟩
      . simp at hx
    . rename_i e;exact .inl ⟨fun e'=>e e'.symm,by simpa using hx⟩
   refine ⟨_,_,_,h4,hP,by rw [hp,<-Array.length_toList,h3];simp [hsz'],fun k x hx=>?_,fun k l x y hx hy e=>?_,fun k x hx=>?_⟩
   . rw [xsf,J];rcases q k x hx with ⟨g1,g2⟩|⟨rfl,rfl⟩
     . obtain ⟨t',a1,a2,a3⟩:=O.keys k x g2;exact ⟨t',a1,by rw [if_neg g1];exact a2,a3⟩
     . exact ⟨t0,rfl,by rw [if_pos rfl];rfl,xjI Y⟩
   . have ad:es[j0]?=some e0:=by simpa using h1
     have ac:∀ (k:Nat) (x:MapEntry),Q[k]?=some x->∃ y:MapEntry,es[k]?=some y/\y.key=x.key:=fun k x hx=>by
      rcases q k x hx with ⟨g1,g2⟩|⟨rfl,rfl⟩
      . exact ⟨x,g2,rfl⟩
      . exact ⟨e0,ad,h2⟩
     obtain ⟨x',a1,a2⟩:=ac k x hx;obtain ⟨y',b1,b2⟩:=ac l y hy;exact O.apart k l x' y' a1 b1 (by rw [a2,b2,e])
   . rcases q k x hx with ⟨g1,g2⟩|⟨rfl,rfl⟩
     . exact .inl ⟨by rw [J];exact g1,g2⟩
     . exact .inr ⟨J.symm,rfl⟩
end
section
variable {P : Program} {w : World} {A : Nat -> Prop} {M : Id -> Option MB} {B : Nat} {H : List Box}
theorem xDf (hR:HR w A M B H) {o:Oper} {ρc:Operand->Value} {t:TypeId} {om ok ov:Operand} {xm xk xv:AV} {H':List Box} (ho:o.op=.mapUpdate t om ok ov\/o.op=.insert t om ok ov) (hm:Rel w A M (ρc om) xm) (hk:Rel w A M (ρc ok) xk) (hv:Rel w A M (ρc ov) xv) (h:absPutR P H t xm xk xv=some H') :
  Writes P o ρc w A M B (.tuple []) H':=by
 unfold absPutR at h;split at h
 case h_2=>simp at h
 rename_i n ver i j s id ab off len kt et cb;split at h
 case h_2=>simp at h
 rename_i bx b2 cj bp a5;split at h
 case isFalse=>simp at h
 rename_i ci;obtain ⟨bi,bk,bg,ag,bw,rfl,rfl,ba,cq,Q⟩:=ci;cases h;obtain ⟨m,a6,Z,ca,ao⟩:=xAB hR hm bp;obtain ⟨az,cl,bn,bh,aq,bq,cp⟩:=xjp bp;obtain ⟨es,clock,b8,hcap,a7⟩:=Z.mapKs bn bh bq cp ao;obtain ⟨t0,ck,bz⟩:=hk.str_inv;subst bz;obtain ⟨m2,a2,an,U,co,ct,cw⟩:=xiv hR hv a5;obtain ⟨ah,a0⟩:=xaz a5;rw [xba] at ah;have ap:isC bx.ty=true:=xeC aq;have hne:id≠n:=fun e=>by
  subst e;rw [az] at ah;cases ah;rw [ag] at ap;cases ap
 have hsz:m.sz=2:=by rw [<-Z.sz];exact bq
 have hA:A m.b:=(Z.guard ao).1 bi;have ce:xLn m.ty=true:=by rw [<-Z.ty];exact xl1 bn
 obtain ⟨aa,ae,q,r1,rP,r2,r3,r5,r4⟩:=b8.put cb cj cq (ρc ov) (.list b2.sz b2.xs);generalize Y:putIx bx.xs t0.data.toList=ix at r4;have bo:MapB (ChangeMaps.setBlock w m.b (.map ae q)) m.b aa q:=⟨ae,by simp [ChangeMaps.setBlock,Z.lt ao],rP⟩
 have ak:∀ b,b≠m.b->(ChangeMaps.setBlock w m.b (.map ae q)).heap[b]?=w.heap[b]?:=fun b hb=>by
  simp [ChangeMaps.setBlock,Array.getElem?_setIfInBounds,Ne.symm hb]
 have ai:(ChangeMaps.setBlock w m.b (.map ae q)).heap.size=w.heap.size:=by simp [ChangeMaps.setBlock]
 have W:∀ b,b<w.heap.size->¬ A b->(ChangeMaps.setBlock w m.b (.map ae q)).heap[b]?=w.heap[b]?:=fun b _ hb=>ak b fun e=>hb (e▸hA)
 have bv:n<H.length:=xcy az;have ch:id<H.length:=xcy ah;let M':Id->Option MB:=fun x=>if x=.b id then some ⟨m2.b,m2.ver+1,m2.sz,0,m2.ty⟩ else if x=.r n ix 1 then some ⟨m2.b,2*b2.xs.length,m2.sz,m2.cap,m2.ty⟩ else M x
 have ar:M' (.b id)=some ⟨m2.b,m2.ver+1,m2.sz,0,m2.ty⟩:=by simp [M']
 have am:M' (.r n ix 1)=some ⟨m2.b,2*b2.xs.length,m2.sz,m2.cap,m2.ty⟩:=by simp [M']
 have aj:∀ x:Id,x≠.b id->x≠.r n ix 1->M' x=M x:=fun x h1 h2=>by simp [M',h1,h2]
 have bj:∀ m0,M (.r n ix 1)=some m0->m0.ver<2*b2.xs.length:=fun m0 h0=>by
  obtain ⟨rb,k1,k2⟩:=hR.box _ m0 h0;obtain ⟨k4,k5,k6,k7⟩:=xf8 az ap k1;have k8:=k2.ver;rw [k7] at k8;unfold putIx at Y;unfold deadR at Q;cases hi:mapIx bx.xs t0.data.toList with
  | none =>
   rw [hi] at Y;simp only at Y;omega
  | some i =>
   rw [hi] at Y Q;simp only at Y Q;subst Y;unfold deadLen at Q;split at Q
   . rename_i l0 be;split at be
     . rename_i kk l hl;simp only [z1] at be;simp only [zk] at Q;rw [hl] at k8;simp only [xLN,rowLen] at k8;omega
     . simp at be
   . simp at Q
 have ad:MExt M M':=fun x m0 h0=>by
  by_cases e1:x=.b id
  . subst e1;rw [an] at h0;cases h0;exact ⟨_,ar,.inr (Nat.lt_succ_self _)⟩
  . by_cases e2:x=.r n ix 1
    . subst e2;exact ⟨_,am,.inr (bj m0 h0)⟩
    . exact ⟨m0,by rw [aj x e1 e2];exact h0,.inl rfl⟩
 have au:∀ x m',M' x=some m'->0<m'.cap->∃ y m0,M y=some m0/\m0.b=m'.b/\m0.cap=m'.cap/\(x=.r n ix 1/\y=.b id\/x=y/\y≠.b id/\y≠.r n ix 1):=fun x m' h h0=>by
  by_cases e1:x=.b id
  . subst e1;rw [ar] at h;cases h;exact absurd h0 (by simp)
  . by_cases e2:x=.r n ix 1
    . subst e2;rw [am] at h;cases h;exact ⟨_,m2,an,rfl,rfl,.inl ⟨rfl,rfl⟩⟩
    . rw [aj x e1 e2] at h;exact ⟨x,m',h,rfl,rfl,.inr ⟨rfl,e1,e2⟩⟩
 have bu:∀ (x:Id) m1 x' m2,M' x=some m1->M' x'=some m2->0<m1.cap->0<m2.cap->m1.b=m2.b->x=x':=fun x m1 x' m2 h1 h2 c1 c2 he=>by
  obtain ⟨y,n1,a1,a2,a3,a4⟩:=au x m1 h1 c1;obtain ⟨y',n2,b1,b2,b3,b4⟩:=au x' m2 h2 c2;have:=hR.inj y y' n1 n2 a1 b1 (by omega) (by omega) (by rw [a2,b2,he])
  subst this;rcases a4 with ⟨rfl,e1⟩|⟨rfl,e1,_⟩<;>rcases b4 with ⟨rfl,e2⟩|⟨rfl,e2,_⟩
  . rfl
  . exact absurd e1 e2
  . exact absurd e2 e1
  . rfl
 have af:∀ (x:Id) m0,x≠.b n->M x=some m0->0<m0.cap->(ChangeMaps.setBlock w m.b (.map ae q)).heap[m0.b]?=w.heap[m0.b]?:=fun x m0 hx h0 c0=>ak m0.b fun e=>hx (hR.inj x (.b n) m0 m h0 a6 c0 ao e)
 generalize ac:xLC bx.xs t0.data.toList (.list b2.sz b2.xs)=J at r2 r3;have ax:∀ k,J.getD k .top=if k=ix then .agg [.str t0.data.toList,.list b2.sz b2.xs] else bx.xs.getD k .top:=fun k=>by rw [<-ac,<-Y];exact xsf k
 have cr:J.length<=bx.xs.length+1:=by rw [<-ac];exact xwA.2
 have cf:bx.xs.length<=J.length:=by rw [<-ac];exact xwA.1
 have a9:ix<J.length:=by rw [<-ac,<-Y];exact xGn
 have b6:ix<=bx.xs.length:=by
  rw [<-Y];unfold putIx;cases hi:mapIx bx.xs t0.data.toList with
  | none=>exact zb _
  | some i=>exact Nat.le_of_lt (xsc hi)
 have ay:∀ k,k<J.length->k≠ix->k<bx.xs.length:=fun k hk hne=>by
  unfold xLC at ac;unfold putIx at Y;cases hi:mapIx bx.xs t0.data.toList with
  | none=>rw [hi] at Y;simp only at Y;omega
  | some i=>rw [hi] at ac;rw [<-ac] at hk;simpa using hk
 have bb:((H.set id ⟨ab+1,b2.sz,b2.ty,[],false,true⟩).set n ⟨ver,2,bx.ty,J,false,true⟩)[n]?=some ⟨ver,2,bx.ty,J,false,true⟩:=zK (by simpa using bv)
 have bt:((H.set id ⟨ab+1,b2.sz,b2.ty,[],false,true⟩).set n ⟨ver,2,bx.ty,J,false,true⟩)[id]?=some ⟨ab+1,b2.sz,b2.ty,[],false,true⟩:=by
  rw [zW (Ne.symm hne),zK ch]
 have a8:∀ k,xLm bx.ty k=true->k=1:=fun k hk=>by rw [xps hk,<-xps aq]
 have hR':HR (ChangeMaps.setBlock w m.b (.map ae q)) A M' B ((H.set id ⟨ab+1,b2.sz,b2.ty,[],false,true⟩).set n ⟨ver,2,bx.ty,J,false,true⟩):=by
  refine hR.rebuild (fun k=>k=n\/k=id) (fun k hk cu=>?_) (fun x O=>aj x (fun e=>O (.inr (by rw [e];rfl))) fun e=>O (.inl (by rw [e];rfl))) (fun x m0 O h0 c0=>⟨af x m0 (fun e=>O (.inl (by rw [e];rfl))) h0 c0,fun h=>h⟩) W (by rw [ai];exact zb _) (fun _ _ h=>h) ad (fun x m' hS O=>?_) (fun x m1 x' m2 _ h1 h2 c1 c2 he=>bu x m1 x' m2 h1 h2 c1 c2 he) (fun b hb=>by rw [ai];exact hR.lt b hb)
  . rw [zW (fun e=>hk (.inl e.symm)),zW (fun e=>hk (.inr e.symm))]
  . by_cases e1:x=.b id
    . subst e1;rw [ar] at O;cases O;have hc:∀ {p:Prop},0<(0:Nat)->p:=fun h=>absurd h (by simp)
      exact ⟨(⟨ab+1,b2.sz,b2.ty,[],false,true⟩:Box),bt,by simp only;rw [<-U.ver,a0],U.sz,U.ty,zP _,zP _,fun x hx=>by simp at hx,hc,hc,hc,hc⟩
    . by_cases e2:x=.r n ix 1
      . subst e2;rw [am] at O;cases O;have b5:getB ((H.set id ⟨ab+1,b2.sz,b2.ty,[],false,true⟩).set n ⟨ver,2,bx.ty,J,false,true⟩) (.r n ix 1)=some ⟨2*b2.xs.length,b2.sz,rowTy bx.ty,b2.xs,false,true⟩:=by
         rw [xdi bb ap aq rfl a9];show some (xLN _ ((J.getD ix .top).cells.getD 1 .top))=_;rw [ax,if_pos rfl];rfl
        have k4:=U.mono (w':=ChangeMaps.setBlock w m.b (.map ae q)) (A':=A) (M':=M') (fun h0=>af (.b id) m2 (fun e=>hne (by injection e)) an h0) W (by rw [ai];exact zb _) (fun _ _ h=>h) U.guard ad
        refine ⟨_,b5,rfl,k4.sz,by rw [<-bw];exact k4.ty,k4.capm,k4.fits,k4.ok,k4.low,k4.lt,fun h0=>?_,fun h0=>?_⟩
        . obtain ⟨cc,c1,c2,c3⟩:=k4.cells h0;refine ⟨cc,c1,c2,fun i' j' bf hk=>?_⟩
          have h4:=c3 i' j' bf hk;rw [xao ag,xa3 ag,bg] at h4;rw [xao (xbF _),xa3 (bx:=⟨2*b2.xs.length,b2.sz,rowTy bx.ty,b2.xs,false,true⟩) (xbF _)];exact h4
        . have:=k4.guard h0;rw [bk] at this;exact this
      . by_cases al:x.base=id
        . rw [aj x e1 e2] at O;obtain ⟨bx',k1,k2⟩:=hR.box x m' O;cases x with
          | b k=>exact absurd (by rw [<-al];rfl) e1
          | r k i' j' =>
           simp only [Id.base] at al;subst al;rw [xd8 ah ag] at k1;cases k1;exact ⟨tombB,xd8 bt ag,k2.mono (fun h0=>af _ m' (fun e=>by cases e) O h0) W (by rw [ai];exact zb _) (fun _ _ h=>h) k2.guard ad⟩
        have aw:x.base=n:=by
         rcases hS with h|h
         . exact h
         . exact absurd h al
        rw [aj x e1 e2] at O;obtain ⟨bx',k1,k2⟩:=hR.box x m' O;cases x with
        | r n' i' j' =>
         simp only [Id.base] at aw;subst aw;have k3:getB ((H.set id ⟨ab+1,b2.sz,b2.ty,[],false,true⟩).set n' ⟨ver,2,bx.ty,J,false,true⟩) (.r n' i' j')=some bx':=by
          obtain ⟨b0,e3,e4,e5⟩:=xf8 az ap k1;have b9:=a8 j' b0;subst b9;have cg:i'≠ix:=fun e=>e2 (by rw [e])
          rw [xdi bb ap aq rfl (by show i'<J.length;omega),e5]
          show some (xLN _ ((J.getD i' .top).cells.getD 1 .top))=_;rw [ax,if_neg cg];have:∀ y:AV,xLN ⟨ver,2,bx.ty,J,false,true⟩ y=xLN bx y:=fun y=>by
           cases y<;>simp [xLN,bi]
          rw [this]
         exact ⟨bx',k3,k2.mono (fun h0=>af _ m' (fun e=>by cases e) O h0) W (by rw [ai];exact zb _) (fun _ _ h=>h) k2.guard ad⟩
        | b n' =>
         simp only [Id.base] at aw;subst aw;rw [a6] at O;cases O;have hroom':J.length<=maxLen:=by
          unfold xL9 at ba;unfold maxLen;omega
         refine ⟨⟨ver,2,bx.ty,J,false,true⟩,bb,cl.symm.trans Z.ver,hsz.symm,Z.ty,Z.capm,by rw [hcap];exact hroom',fun y hy=>?_,Z.low,fun h0=>by rw [ai];exact Z.lt h0,fun h0=>?_,fun _=>⟨fun _=>hA,fun _=>rfl⟩⟩
         . rw [hsz];obtain ⟨k,hk,rfl⟩:=xjv hy;rw [ax];by_cases bc:k=ix
           . rw [if_pos bc];exact xuO rfl
           . rw [if_neg bc,<-hsz];exact Z.ok _ (xat (ay k hk bc))
         . let c':Array Value:=Array.ofFn (n:=maxLen*2) fun k=>match aa[k.val / 2]? with
            | some x=>if k.val % 2=0 then x.key else x.val
            | none=>undef
           have cv:aa.size<=maxLen:=by rw [r2];exact hroom'
           have cm:∀ (k:Nat) (x:MapEntry),aa[k]?=some x->k<aa.size:=fun k x hx=>by
            rcases zI k aa.size with h|h
            . exact h
            . simp [Array.getElem?_eq_none h] at hx
           have hc':∀ (k:Nat) (x:MapEntry),aa[k]?=some x->c'.getD (k*m.sz) undef=x.key/\c'.getD (k*m.sz+1) undef=x.val:=fun k x hx=>by
            have hk:=cm k x hx;rw [hsz];have e1:k*2<maxLen*2:=by omega
            have e2:k*2+1<maxLen*2:=by omega
            constructor
            . rw [zt,Array.getElem?_ofFn,dif_pos e1];simp only [zg,Nat.mul_div_cancel _ (by omega:0<2),hx,Nat.mul_mod_left,if_true]
            . rw [zt,Array.getElem?_ofFn,dif_pos e2];have d1:(k*2+1) / 2=k:=by omega
              have d2:¬ (k*2+1) % 2=0:=by omega
              simp only [zg,d1,hx,d2,if_false]
           refine ⟨c',?_,by rw [hcap,hsz];exact Array.size_ofFn,fun i' j' bf cd=>?_⟩
           . unfold HoldsC;rw [ce];exact ⟨aa,q,bo,r2,hcap,hc',fun k x hx=>by obtain ⟨t',a1,_,a3⟩:=r3 k x hx;exact ⟨t',a1,a3⟩,r5⟩
           . have b7:i'<aa.size:=by rw [r2];exact bf
             obtain ⟨x,hx⟩:∃ x,aa[i']?=some x:=⟨aa[i'],by simp [b7]⟩
             rw [hsz] at cd;rcases j' with _|_|j'
             . rw [Nat.add_zero,(hc' i' x hx).1];obtain ⟨t',a1,a2,_⟩:=r3 i' x hx;unfold MV xLK;simp only [bh];rw [a1,a2];exact .str t'
             . rw [(hc' i' x hx).2];unfold MV xLK;simp only [aq];rw [ax];rcases r4 i' x hx with ⟨g1,g2⟩|⟨g1,g2⟩
               . rw [if_neg g1];have h4:=a7 i' x g2;unfold MV xLK at h4;simp only [aq] at h4;exact h4.mono W (by rw [ai];exact zb _) (fun _ _ h=>h) ad
               . rw [if_pos g1,g2];subst g1;obtain ⟨m3,q1,q2,q3,q4⟩:=Rel.osl_inv hv;rw [an] at q1;cases q1;obtain ⟨q5,a,q6,q7⟩:=q4 (by rw [<-a0,U.ver])
                 exact .osl _ (.r n' i' 1) _ _ _ _ am (zb _) q3 fun _=>⟨q5,a,q6,q7⟩
             . omega
 refine ⟨.skip,ChangeMaps.setBlock w m.b (.map ae q),A,M',undef,?_,.inr ⟨rfl,rfl⟩,⟨rfl,rfl,rfl,by rw [ai];exact zb _,fun k hk=>ak k fun e=>by have:=Z.low ao;omega⟩,ad,fun _ _=>Iff.rfl,W,⟨fun b _ hb=>ak b fun e=>hb (.b n) m a6 ao e.symm,fun x m' h h0=>?_⟩,hR',.tuple #[] [] rfl (by simp)⟩
 . rcases ho with ho|ho<;>simp only [execOp,ho,Sem.run_bind,ca,ck,r1,Result.andThen_ok,Sem.run_pure]
 . obtain ⟨y,m0,a1,a2,a3,_⟩:=au x m' h h0;exact .inl ⟨y,m0,a1,by omega,a2.symm⟩
end
theorem xBu (hR:HR w A M B H) (hB:B<=w.heap.size) {o:Oper} {ρc:Operand->Value} {t:TypeId} {r:AV} {H':List Box} (ho:o.op=.makeMap t none) (h:absMakeM P H t=some (r,H')) :
  Writes P o ρc w A M B r H':=by
 unfold absMakeM at h;split at h
 case h_2=>simp at h
 rename_i kt et ag;split at h
 case h_2=>simp at h
 rename_i ty ah af;split at h
 case isFalse=>simp at h
 rename_i ae;obtain ⟨Q,ac⟩:=ae;simp only [z1,za] at h;obtain ⟨rfl,rfl⟩:=h;have hn:Free M H.length:=hR.free_of_length (zb _);have q:=xe5 w (.map #[] 0);have Y:rty ty=ty:=by unfold rty;rw [ac,Q]
 let m:MB:=⟨w.heap.size,0,2,maxLen,ty⟩;have O:MExt M (MPut M H.length m):=xpG hn m;have hA:∀ b,b<w.heap.size->(APut A w.heap.size false b->A b):=fun b hb h=>by
  rcases h with h|⟨h,_⟩
  . exact h
  . omega
 have J:MPut M H.length m (.b H.length)=some m:=by simp [MPut]
 have Z:(H++[⟨0,2,ty,[],false,true⟩])[H.length]?=some ⟨0,2,ty,[],false,true⟩:=by simp
 have aa:∀ x:Id,x≠.b H.length->MPut M H.length m x=M x:=fun x hx=>by simp [MPut,hx]
 have hR':HR (w.alloc (.map #[] 0)) (APut A w.heap.size false) (MPut M H.length m) B (H++[⟨0,2,ty,[],false,true⟩]):=by
  refine hR.rebuild (fun k=>k=H.length) (fun k hk ab=>zN ab) (fun x hx=>aa x fun e=>hx (by rw [e];rfl)) (fun x m0 hx h0 c0=>?_) (fun b hb _=>q.block b hb) q.size hA O (fun x m0 hx h0=>?_) (fun x m1 x' m2 hx h1 h2 c1 c2 he=>?_) (fun b hb=>?_)
  . obtain ⟨bx,_,k2⟩:=hR.box x m0 h0;exact ⟨q.block _ (k2.lt c0),.inl⟩
  . cases x with
    | b k =>
     have hx:k=H.length:=hx;subst hx;rw [J] at h0;cases h0;refine ⟨_,Z,rfl,rfl,Y,zb _,zP _,fun y hy=>by simp at hy,fun _=>hB,fun _=>by simp [m],fun _=>⟨Array.replicate (maxLen*2) undef,?_,by simp [m],fun i j hi _=>by simp at hi⟩,fun _=>⟨fun _=>.inr ⟨rfl,rfl⟩,fun _=>rfl⟩⟩
     unfold HoldsC;show match xLn ty with|false=>_|true=>_
     rw [Q];exact ⟨#[],0,⟨#[],heap_alloc_new w _,.refl _,by simp,by simp⟩,rfl,rfl,fun k x hx=>by simp at hx,fun k x hx=>by simp at hx,fun k l x y hx=>by simp at hx⟩
    | r k i j =>
     have hx:k=H.length:=hx;subst hx;have:MPut M H.length m (.r H.length i j)=M (.r H.length i j):=by simp [MPut]
     rw [this,hn.2] at h0;cases h0
  . have ad:x=.b H.length:=by
     cases x with
     | b k=>have hx:k=H.length:=hx;rw [hx]
     | r k i j =>
      have hx:k=H.length:=hx;subst hx;have:MPut M H.length m (.r H.length i j)=M (.r H.length i j):=by simp [MPut]
      rw [this,hn.2] at h1;cases h1
    subst ad;rw [J] at h1;cases h1;by_cases U:x'=.b H.length
    . exact U.symm
    . have h2':M x'=some m2:=by simpa [MPut,U] using h2
      obtain ⟨bx',_,h3⟩:=hR.box x' m2 h2';have:=h3.lt c2;rw [<-he] at this;simp [m] at this
  . rcases hb with hb|⟨rfl,_⟩
    . have:=hR.lt b hb;simp;omega
    . simp
 refine ⟨.value (.map (some w.heap.size)),w.alloc (.map #[] 0),APut A w.heap.size false,MPut M H.length m,.map (some w.heap.size),?_,.inl rfl,⟨rfl,rfl,rfl,q.size,fun k hk=>q.block k (Nat.lt_of_lt_of_le hk hB)⟩,O,fun b hb=>⟨hA b hb,.inl⟩,fun b hb _=>q.block b hb,Touch.of_new q (fun id m' h=>?_),hR',.own _ (.b H.length) 0 0 0 m J (zb _) rfl fun _=>?_⟩
 . simp [execOp,ho,Instr.makeMap]
 . by_cases W:id=.b H.length
   . subst W;rw [J] at h;cases h;exact .inr (zb _)
   . exact .inl (by simpa [MPut,W] using h)
 . unfold ptrOf;show _=match xLn ty with|true=>_|false=>_
   rw [Q];rfl
end
end
section
variable {P : Program} {w : World} {A : Nat -> Prop} {M : Id -> Option MB} {B : Nat} {H : List Box}
def iop (P:Program) (ρ:Operand->AV) (H:List Box) (op:Op):Option (AV×List Box) :=
 match op with
 | .store t a v=>match mkd H (ρ a) with
  | true=>match absAdopt P H t (ρ a) (ρ v) with
   | some H'=>some (.tuple [],H')
   | none=>none
  | false=>match absStore P H t (ρ a) (ρ v) with
   | some H'=>some (.tuple [],H')
   | none=>none
 | .call c=>match c.callee with
  | .builtin b=>match b,c.argTypes.toList,c.args.toList with
   | .append,[t,t'],[s,x]=>match isRowRef (ρ s) with
    | true=>absTake P H t t' (ρ s) (ρ x)
    | false=>match mkd H (ρ s) with
     | true=>absAppC P H t t' (ρ s) (ρ x)
     | false=>xMo P H t t' (ρ s) (ρ x)
   | .clear,[t],[x]=>match absClear P H t (ρ x) with
    | some H'=>some (.tuple [],H')
    | none=>none
   | _,_,_=>none
  | _=>none
 | .lookup t m k c=>match absLookL P H t (ρ m) (ρ k) c with
  | some r=>some (r,H)
  | none=>match absLookM P H t (ρ m) (ρ k) c with
   | some r=>some (r,H)
   | none=>match absLookR P H t (ρ m) (ρ k) c with
    | some r=>some (r,H)
    | none=>none
 | .mapUpdate t m k v=>match absPutM P H t (ρ m) (ρ k) (ρ v) with
  | some H'=>some (.tuple [],H')
  | none=>match absPutR P H t (ρ m) (ρ k) (ρ v) with
   | some H'=>some (.tuple [],H')
   | none=>none
 | .makeMap t r=>match r with
  | none=>absMakeM P H t
  | some _=>none
 | _=>none
theorem xEy (hR:HR w A M B H) (hB:B<=w.heap.size) {ρ:Operand->AV} {ρc:Operand->Value} {o:Oper} {x:AV} {H':List Box} (hρ:∀ a,Rel w A M (ρc a) (ρ a)) (h:iop P ρ H o.op=some (x,H')):Writes P o ρc w A M B x H':=by
 unfold iop at h;split at h
 . rename_i t a v ho;split at h
   . split at h
     case h_2=>simp at h
     rename_i H2 q;simp only [z1,za] at h;obtain ⟨rfl,rfl⟩:=h;exact xBb hR ho (hρ a) (hρ v) q
   . split at h
     case h_2=>simp at h
     rename_i H2 q;simp only [z1,za] at h;obtain ⟨rfl,rfl⟩:=h;exact xBP hR ho (hρ a) (hρ v) q
 . rename_i c ho;split at h
   case h_2=>simp at h
   rename_i b J;split at h
   . rename_i t t' s y O has;split at h
     . exact xDy hR hB ho J O has (hρ s) (hρ y) h
     . split at h
       . exact xCA hR hB ho J O has (hρ s) (hρ y) h
       . exact xs9 hR hB ho J O has (hρ s) (hρ y) h
   . rename_i t x O has;split at h
     case h_2=>simp at h
     rename_i H2 q;simp only [z1,za] at h;obtain ⟨rfl,rfl⟩:=h;exact xBh hR ho J O has (hρ x) q
   . simp at h
 . rename_i t m k c ho;split at h
   . rename_i r q;simp only [z1,za] at h;obtain ⟨rfl,rfl⟩:=h;exact xBs hR ho (hρ m) (hρ k) q
   split at h
   . rename_i r q;simp only [z1,za] at h;obtain ⟨rfl,rfl⟩:=h;exact xC5 hR ho (hρ m) (hρ k) q
   . split at h
     case h_2=>simp at h
     rename_i r q;simp only [z1,za] at h;obtain ⟨rfl,rfl⟩:=h;exact xBt hR ho (hρ m) (hρ k) q
 . rename_i t m k v ho;split at h
   . rename_i H2 q;simp only [z1,za] at h;obtain ⟨rfl,rfl⟩:=h;exact xDd hR (.inl ho) (hρ m) (hρ k) (hρ v) q
   . split at h
     case h_2=>simp at h
     rename_i H2 q;simp only [z1,za] at h;obtain ⟨rfl,rfl⟩:=h;exact xDf hR (.inl ho) (hρ m) (hρ k) (hρ v) q
 . rename_i t r ho;split at h
   . exact xBu hR hB ho h
   . simp at h
 . simp at h
end
def absAppE (P:Program) (H:List Box) (nid:Nat) (t tt:TypeId) (s x:AV):Option (AV×Option Box) :=
 match s with
 | .empt=>match xLk P t with
  | some ti=>match ti.d with
   | .slice e=>match xLk P e with
    | some te=>match absSrc P H t tt e te.sz x with
     | some (ys,pm)=>if 0<te.sz/\ys.length*te.bytes<=140737488355328/\ys.length<=xL9/\te.zero.okElem te.sz=true then some (.osl nid 0 0 ys.length,some ⟨0,te.sz,e,ys,false,pm⟩) else none
     | none=>none
    | none=>none
   | _=>none
  | none=>none
 | _=>none
section
variable {P : Program} {w : World} {A : Nat -> Prop} {M : Id -> Option MB} {B : Nat} {H : List Box} {nid : Nat}
theorem HR.virtAt (hR:HR w A M B H) (hn:Free M nid) {bx:Box} (hH:H[nid]?=some bx) (hx:bx.xs=[]) (Y:isC bx.ty=false) :
  MExt M (MPut M nid ⟨0,bx.ver,bx.sz,0,bx.ty⟩)/\NewId w M (MPut M nid ⟨w.heap.size,bx.ver,bx.sz,0,bx.ty⟩) nid/\HR w A (MPut M nid ⟨w.heap.size,bx.ver,bx.sz,0,bx.ty⟩) B H/\MPut M nid ⟨w.heap.size,bx.ver,bx.sz,0,bx.ty⟩ nid=some ⟨w.heap.size,bx.ver,bx.sz,0,bx.ty⟩/\MExt M (MPut M nid ⟨w.heap.size,bx.ver,bx.sz,0,bx.ty⟩):=by
 have Q:MExt M (MPut M nid ⟨w.heap.size,bx.ver,bx.sz,0,bx.ty⟩):=xpG hn _;have O:∀ id m',MPut M nid ⟨w.heap.size,bx.ver,bx.sz,0,bx.ty⟩ id=some m'->0<m'.cap->M id=some m':=fun id m' hm h0=>by
  by_cases q:id=.b nid
  . subst q;simp [MPut] at hm;subst hm;exact absurd h0 (by simp)
  . simpa [MPut,q] using hm
 refine ⟨xpG hn _,⟨fun id q=>by simp [MPut,q],fun m' J=>.inr (by simp [MPut] at J;subst J;exact zb _)⟩,⟨fun id m' J=>?_,fun id id' m1 m2 h1 h2 c1 c2 he=>hR.inj id id' m1 m2 (O id m1 h1 c1) (O id' m2 h2 c2) c1 c2 he,hR.lt⟩,by simp [MPut],Q⟩
 by_cases q:id=.b nid
 . subst q;have:m'=⟨w.heap.size,bx.ver,bx.sz,0,bx.ty⟩:=by simp [MPut] at J;exact J.symm
   subst this;have hc:∀ {p:Prop},0<(0:Nat)->p:=fun h=>absurd h (by simp)
   exact ⟨bx,hH,rfl,rfl,xaT Y,zP _,by rw [hx];exact zP _,fun x U=>by rw [hx] at U;simp at U,hc,hc,hc,hc⟩
 . have W:M id=some m':=by simpa [MPut,q] using J
   obtain ⟨bx',g1,g2⟩:=hR.box id m' W;exact ⟨bx',g1,g2.mono (fun _=>rfl) (fun _ _ _=>rfl) (zb _) (fun _ _ h=>h) g2.guard Q⟩
theorem xCB (hR:HR w A M B H) (hB:B<=w.heap.size) (hn:Free M nid) {o:Oper} {ρc:Operand->Value} {c:Call} {t tt:TypeId} {os ox:Operand} {xs xx r:AV} {nb:Option Box} (ho:o.op=.call c) (ah:c.callee=.builtin .append)
  (ay:c.argTypes.toList=[t,tt]) (has:c.args.toList=[os,ox]) (hs:Rel w A M (ρc os) xs) (hx:Rel w A M (ρc ox) xx) (h:absAppE P H nid t tt xs xx=some (r,nb)) (hH:∀ bx,nb=some bx->∃ f,H[nid]?=some { bx with frz:=f }) :
  Gives P o ρc w A M B H nid r:=by
 unfold absAppE at h;split at h
 case h_2=>simp at h
 split at h
 case h_2=>simp at h
 rename_i ti am;split at h
 case h_2=>simp at h
 rename_i e hd;split at h
 case h_2=>simp at h
 rename_i te Y;split at h
 case h_2=>simp at h
 rename_i ys pm aq;split at h
 case isFalse=>simp at h
 rename_i ap;obtain ⟨ad,aw,au,O⟩:=ap;simp only [z1,za] at h;obtain ⟨rfl,rfl⟩:=h;obtain ⟨f,ae⟩:=hH _ rfl;have hu:P.underlying t=some (.slice e):=by rw [xj8 am,hd]
 obtain ⟨i,z,ac,a1,ar,ax,ab,al,_⟩:=xaS Y;have ai:isC e=false:=xkJ Y;have hts':c.argTypes=#[t,tt]:=by apply Array.ext';simpa using ay
 have has':c.args=#[os,ox]:=by apply Array.ext';simpa using has
 have q:∀ v w',(Builtin.append_ #[t,tt] o.type #[ρc os,ρc ox]).run P w=.ok v w'->(execOp ρc o).run P w=.ok (.value v) w':=by
  intro v w' hv;simp [execOp,ho,resolve,ah,hts',has',invoke,builtin,hv,Go.resolve]
 have Q:∃ a,ρc os=.slice a 0 0:=by
  generalize ρc os=v at hs;cases hs with|empt a=>exact ⟨a,rfl⟩
 obtain ⟨a,Q⟩:=Q;rw [Q] at q;rcases xpu hR Y ad hu (ty:=o.type) ac hx aq with ⟨rfl,az⟩|⟨a3,a0,news,ag,an,U⟩
 . obtain ⟨_,g2,g3,g4,g5⟩:=hR.virtAt hn ae rfl ai;exact ⟨.slice a 0 0,w,A,_,q _ _ (az a 0 0 (zb _)),Below.refl _ _,g5,fun _ _=>Iff.rfl,g2,g3,.osl _ (.b nid) 0 0 0 _ g4 (zb _) rfl fun _=>⟨by simp,a,by simp,fun h=>by simp at h⟩⟩
 have a4:ys.length<=4611686018427387904:=au;have ak:Rel w A M z te.zero:=by rw [al];exact xce w A M z
 obtain ⟨a5,_⟩:=ak.cells (xaC O);have a2:=xan O;have J:(Builtin.append_ #[t,tt] o.type #[.slice a 0 0,ρc ox]).run P w=.ok (.slice (some ⟨w.heap.size,0,none⟩) ys.length (grownCap w ys.length 0 e)) (w.drew.alloc (.cells (news.toArray++Builtin.zeroCells z.cells (grownCap w ys.length 0 e - ys.length)) e)):=by
  have R:=U i z ac ar ax.symm;cases a with
  | none=>exact R.nil (by omega) (by rw [<-ab];omega)
  | some b =>
   have:=R.grow b 0 0 [] (by simp) (fun j u hj=>by simp at hj) (by omega) (by omega) (growslice_fits (by omega) (by rw [<-ab];simpa using aw))
   simpa using this
 have W:=grownCap_ge w ys.length 0 e;have Z:=grownCap_le_maxLen w ys.length 0 e (by unfold maxLen;omega)
 generalize hcap:grownCap w ys.length 0 e=cap at J W Z;have af:(Builtin.zeroCells z.cells (cap - ys.length)).size=(cap - ys.length)*te.sz:=by rw [size_zeroCells];congr 1;omega
 have ao:=xpb (bx:=⟨0,te.sz,e,ys,f,pm⟩) (nid:=nid) (c:=news.toArray++Builtin.zeroCells z.cells (cap - ys.length)) (cap:=cap) hR.drew (by simpa using hB) hn ai ae Z
  (by rw [Array.size_append,List.size_toArray,ag,af,<-Nat.add_mul];congr 1;omega) W a0
  (fun i' j aj hj=>by
   have hk:i'*te.sz+j<ys.length*te.sz:=xcz aj hj;have e1:(news.toArray++Builtin.zeroCells z.cells (cap - ys.length)).getD (i'*te.sz+j) undef=news.getD (i'*te.sz+j) undef:=by
    simp only [zt,Array.getElem?_append,List.size_toArray,ag,hk,if_true,List.getElem?_toArray,z6]
   rw [e1];exact (an _ _ aj hj).grow ⟨rfl,rfl,rfl,zb _,fun _ _=>rfl⟩)
 obtain ⟨s1,s2,s3,s4,s5⟩:=ao;have aa:Below w.heap.size w (w.drew.alloc (.cells (news.toArray++Builtin.zeroCells z.cells (cap - ys.length)) e)):=((Below.refl _ _).drew).alloc (by simp) _
 exact ⟨_,_,_,_,q _ _ J,aa,s1,s2,s3,s4,.osl _ (.b nid) 0 0 ys.length _ s5 (zb _) rfl fun _=>⟨by simpa using W,some ⟨w.heap.size,0,none⟩,by simp,fun _=>by simp⟩⟩
end
theorem xHb {P:Program} {w:World} {A:Nat->Prop} {M:Id->Option MB} {B:Nat} {H:List Box} {nid:Nat} {o:Oper} {ρc:Operand->Value} {e:TypeId} {v:Value} {x:AV} (hR:HR w A M B H) (hv:Rel w A M v x) (J:x.cells.all AV.one=true) (hp:x.pure=true)
  (Q:(execOp ρc o).run P w=.ok (.value (.pointer (some ⟨w.heap.size,0,none⟩))) (w.alloc (.cells v.cells e))):Gives P o ρc w A M B H nid (.eptr x.cells.length [x] 0 0):=by
 obtain ⟨h1,h2⟩:=hv.cells J;have q:=xe5 w (.cells v.cells e);have U:¬ A w.heap.size:=fun h=>Nat.lt_irrefl _ (hR.lt _ h)
 have:=Rel.eptr (w:=w.alloc (.cells v.cells e)) (A:=A) (M:=M) w.heap.size 0 x.cells.length [x] 0 0 (fun _ j=>v.cells.getD j undef) U (by simp) (by simp)
  (fun y hy=>by simp only [zu] at hy;subst hy;simp only [AV.okElem,beq_self_eq_true,Bool.true_and];exact J)
  (fun i j hi hj=>by
   have O:i=0:=by simpa using hi
   subst O;have hj':j<v.cells.size:=by rw [h1];exact hj
   have hb:(w.alloc (.cells v.cells e)).heap[w.heap.size]?=some (.cells v.cells e):=heap_alloc_new w _;rw [Nat.zero_mul,zG];unfold World.cell?;simp only [hb];simp [hj'])
  (fun i j hi hj=>by
   have O:i=0:=by simpa using hi
   subst O;exact ((h2 j hj).pure (xeQ (xme hp) j)).grow q)
 exact ⟨_,w.alloc (.cells v.cells e),A,M,Q,q,MExt.refl M,fun _ _=>Iff.rfl,⟨fun _ _=>rfl,fun _ h=>.inl h⟩,hR.grow q,by simpa using this⟩
def fopE (P:Program) (ρ:Operand->AV) (H:List Box) (nid:Nat) (op:Op):Option (AV×Option Box) :=
 match op with
 | .buildSlice t len parts=>match len,parts.toList with
  | 0,[]=>match xLk P t with
   | some ti=>match ti.d with
    | .slice e=>match xLk P e with
     | some _=>some (.empt,none)
     | none=>none
    | _=>none
   | none=>none
  | _,_=>none
 | .call c=>match c.callee with
  | .builtin b=>match b,c.argTypes.toList,c.args.toList with
   | .append,[t,t'],[s,x]=>absAppE P H nid t t' (ρ s) (ρ x)
   | _,_,_=>none
  | _=>none
 | .box _ x=>if (ρ x).cells.all AV.one=true/\(ρ x).pure=true then some (.eptr (ρ x).cells.length [ρ x] 0 0,none) else none
 | .lookup t m k c=>match absLookL P H t (ρ m) (ρ k) c with
  | some r=>some (r,none)
  | none=>match absLookR P H t (ρ m) (ρ k) c with
   | some r=>some (r,none)
   | none=>none
 | _=>none
theorem xFx {P:Program} {ρ:Operand->AV} {H:List Box} {n n':Nat} {op:Op} {x:AV} (h:fopE P ρ H n op=some (x,none)):fopE P ρ H n' op=some (x,none):=by
 unfold fopE at h |-;split at h
 . exact h
 . split at h
   . split at h
     . exfalso;unfold absAppE at h;repeat' split at h
       all_goals simp at h
     . simp at h
   . simp at h
 . exact h
 . exact h
 . simp at h
theorem xCS {P:Program} {w:World} {A:Nat->Prop} {M:Id->Option MB} {B:Nat} {H:List Box} {nid:Nat} {ρ:Operand->AV} {ρc:Operand->Value} {o:Oper} {x:AV} {nb:Option Box} (hf:fopE P ρ H nid o.op=some (x,nb)) (hρ:∀ a,a∈o.op.operands.toList->Rel w A M (ρc a) (ρ a))
  (hR:HR w A M B H) (hB:B<=w.heap.size) (hn:Free M nid) (hH:∀ bx,nb=some bx->∃ f,H[nid]?=some { bx with frz:=f }):Gives P o ρc w A M B H nid x:=by
 unfold fopE at hf;split at hf
 . rename_i t len U ho;split at hf
   case h_2=>simp at hf
   rename_i q;split at hf
   case h_2=>simp at hf
   rename_i ti ab;split at hf
   case h_2=>simp at hf
   rename_i e hd;split at hf
   case h_2=>simp at hf
   rename_i te ae;simp only [z1,za] at hf;obtain ⟨rfl,rfl⟩:=hf;have af:U=#[]:=by apply Array.ext';simpa using q
   subst af;have aa:P.underlying t=some (.slice e):=by rw [xj8 ab,hd]
   obtain ⟨i,z,Z,ah,ad,ag,_⟩:=xaS ae;have Y:(Instr.buildSlice t 0 #[]).run P w=.ok (.slice (some ⟨w.heap.size,0,none⟩) 0 0) (w.alloc (.cells #[] e)):=by
    simp [Instr.buildSlice,run_underlying aa,sizeOf,typeInfo,Z,Go.newRow,zeroValue,ad,Instr.fill,show Array.range 0=#[] from rfl]
   have O:=xe5 w (.cells #[] e);refine ⟨.slice (some ⟨w.heap.size,0,none⟩) 0 0,w.alloc (.cells #[] e),A,M,?_,O,MExt.refl M,fun _ _=>Iff.rfl,⟨fun _ _=>rfl,fun _ h=>.inl h⟩,hR.grow O,.empt _⟩
   simp only [execOp,ho,List.map_toArray,zV,Array.map_empty,Sem.run_bind,Y,Result.andThen_ok,Sem.run_pure]
 . rename_i c ho;split at hf
   case h_2=>simp at hf
   rename_i b Q;split at hf
   . rename_i t t' s y ac has;have J:∀ a,a∈c.args.toList->Rel w A M (ρc a) (ρ a):=fun a ha=>hρ a (by simp [ho,Op.operands,Call.operands,Q];simpa using ha)
     exact xCB hR hB hn ho Q ac has (J s (by rw [has];simp)) (J y (by rw [has];simp)) hf hH
   . simp at hf
 . rename_i e a ho;split at hf
   case isFalse=>simp at hf
   rename_i hc;obtain ⟨W,hp⟩:=hc;simp only [z1,za] at hf;obtain ⟨rfl,rfl⟩:=hf;exact xHb (e:=e) hR (hρ a (by simp [ho,Op.operands])) W hp (by simp [execOp,ho,Instr.box,newVar,Go.newRow])
 . rename_i t m k c ho;split at hf
   . rename_i r hr;simp only [z1,za] at hf;obtain ⟨rfl,rfl⟩:=hf;obtain ⟨v,h1,h2⟩:=xyn hR (hρ m (by simp [ho,Op.operands])) (hρ k (by simp [ho,Op.operands])) hr
     exact .stay hR ⟨v,by simp [execOp,ho,h1],h2⟩
   split at hf
   case h_2=>simp at hf
   rename_i r hr;simp only [z1,za] at hf;obtain ⟨rfl,rfl⟩:=hf;obtain ⟨v,h1,h2⟩:=xyo hR (hρ m (by simp [ho,Op.operands])) (hρ k (by simp [ho,Op.operands])) hr
   exact .stay hR ⟨v,by simp [execOp,ho,h1],h2⟩
 . simp at hf
end Go.Sim
end
