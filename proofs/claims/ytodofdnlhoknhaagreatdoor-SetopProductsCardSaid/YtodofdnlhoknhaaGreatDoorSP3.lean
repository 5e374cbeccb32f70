/- Part 3 of the proof of the law. -/
import Derived.Test.YtodofdnlhoknhaaGreatDoorSP2
import Derived.Laws.OwnMore
import Derived.Laws.Append
import Derived.Laws.AppendOwn
import Derived.Lib.AppendStr
import Derived.Tactics
import Derived.LoopN
set_option linter.defProp false
set_option linter.unusedVariables false
set_option linter.unusedSimpArgs false
set_option linter.unnecessarySimpa false
noncomputable section
namespace Go.Sim
open Go.RowKit
mutual
def AV.flat:AV->Bool
 | .agg cs=>AV.flats cs
 | .list _ _=>false
 | .eptr _ _ _ _=>false
 | .own _ _ _ _=>false
 | .osl _ _ _ _=>false
 | .func f cs=>match Nat.beq f vpF with
  | true=>false
  | false=>AV.flats cs
 | .tuple vs=>AV.flats vs
 | .top=>true
 | .bool _=>true
 | .int _ _=>true
 | .str _=>true
 | .nils=>true
 | .nilptr=>true
 | .nilfn=>true
 | .empt=>true
 | .gptr _=>true
 | .yld _=>true
def AV.flats:List AV->Bool
 | []=>true
 | x::xs=>AV.flat x&&AV.flats xs
end
def xvj:∀ xs:List AV,AV.flats xs=xs.all AV.flat
 | []=>by simp [AV.flats]
 | x::xs=>by simp [AV.flats,xvj xs]
def xoQ {xs:List AV} (h:AV.flats xs=true) (i:Nat):(xs.getD i .top).flat=true:=by
 rw [xvj,zI] at h;by_cases hi:i<xs.length
 . simp only [z7,ze hi,zh];exact h _ (zo _)
 . simp [z7,zz (Nat.le_of_not_lt hi),AV.flat]
def Rel.flat {w w':World} {A A':Nat->Prop} {M M':Id->Option MB} {v:Value} {x:AV} (h:Rel w A M v x):x.flat=true->Rel w' A' M' v x:=by
 induction h generalizing M' with
 | top v=>intro _;exact .top v
 | bool b=>intro _;exact .bool b
 | int k n=>intro _;exact .int k n
 | str s=>intro _;exact .str s
 | agg vs cs h hr ih=>intro hp;exact .agg vs cs h fun i hi=>ih i hi (xoQ (by simpa [AV.flat] using hp) i)
 | nils=>intro _;exact .nils
 | list0 a cap sz=>intro _;exact .list0 a cap sz
 | list b off cap sz xs val ha hb hne hcap hsz hc hr ih=>intro hp;simp [AV.flat] at hp
 | eptr b off sz xs i0 j0 val ha hb hi hsz hc hr ih=>intro hp;simp [AV.flat] at hp
 | own v id ver i j m hm hv h1 he=>intro hp;simp [AV.flat] at hp
 | osl v id ver off len m hm hv h1 he=>intro hp;simp [AV.flat] at hp
 | nilptr=>intro _;exact .nilptr
 | func f vs cs h hr hf ih =>
  intro hp;cases hv:Nat.beq f vpF with
  | true=>simp [AV.flat,hv] at hp
  | false=>exact .func f vs cs h (fun i hi=>ih i hi (xoQ (by simpa [AV.flat,hv] using hp) i)) hf
 | vptr b off v0 x ha hb hc hr ih=>intro hp;exact absurd hp (by simp [AV.flat,vpF])
 | nilfn=>intro _;exact .nilfn
 | nmap=>intro _;exact .nmap
 | empt a=>intro _;exact .empt a
 | tuple vs cs h hr ih=>intro hp;exact .tuple vs cs h fun i hi=>ih i hi (xoQ (by simpa [AV.flat] using hp) i)
 | gptr g=>intro _;exact .gptr g
 | yld g=>intro _;exact .yld g
def mapO (r:AV->Option AV):List AV->Option (List AV)
 | []=>some []
 | x::xs=>match r x,mapO r xs with
  | some y,some ys=>some (y::ys)
  | _,_=>none
def resE (r:AV->Option AV):AV->Option AV
 | .agg cs=>match mapO r cs with
  | some ds=>some (.agg ds)
  | none=>none
 | x=>r x
def mapE (pm:Bool) (r:AV->Option AV) (xs:List AV):Option (List AV):=if pm=true then some xs else mapO (resE r) xs
def AV.toList:AV->List AV
 | .list _ xs=>xs
 | _=>[]
def xIC (sz:Nat):AV->Bool
 | .list z _=>Nat.beq z sz
 | _=>false
def xIr (sz j:Nat) (q:List AV):Bool:=q.all fun x=>xIC sz (x.cells.getD j .top)
def rowsOk (bx:Box) (q:List AV):Bool:=match isC bx.ty with
 | false=>true
 | true=>bx.pm&&xIr (rowSz bx.ty) (xH2 bx.ty) q
def resolve (H:List Box):Nat->AV->Option AV
 | 0,x=>if x.pure=true then some x else none
 | n+1,x=>if x.pure=true then some x else
  match x with
  | .agg cs=>match mapO (resolve H n) cs with|some ds=>some (.agg ds)|none=>none
  | .func f cs=>match Nat.beq f vpF with
   | true=>none
   | false=>match mapO (resolve H n) cs with|some ds=>some (.func f ds)|none=>none
  | .own id ver i j=>match xHx H id ver with
   | some bx=>match mapE bx.pm (resolve H n) bx.xs with
    | some ys=>if i<bx.xs.length/\isC bx.ty=false then some (.eptr bx.sz ys i j) else none
    | none=>none
   | none=>none
  | .osl id ver off len=>match xHx H id ver with
   | some bx=>match mapE bx.pm (resolve H n) ((bx.xs.drop off).take len) with
    | some ys=>if off+len<=bx.xs.length/\rowsOk bx ((bx.xs.drop off).take len)=true then some (.list bx.sz ys) else none
    | none=>none
   | none=>none
  | _=>none
def reach (H:List Box):Nat->AV->List Nat
 | 0,_=>[]
 | n+1,x=>if x.pure=true then [] else
  match x with
  | .agg cs=>cs.flatMap (reach H n)
  | .func _ cs=>cs.flatMap (reach H n)
  | .own id _ _ _=>id.base::(match getB H id with|some bx=>if bx.pm=true then [] else bx.xs.flatMap fun (e:AV)=>e.cells.flatMap (reach H n)|none=>[])
  | .osl id _ off len=>id.base::(match getB H id with|some bx=>if bx.pm=true then [] else ((bx.xs.drop off).take len).flatMap fun (e:AV)=>e.cells.flatMap (reach H n)|none=>[])
  | _=>[]
def xaN {xs:List AV} {i:Nat} (hi:i<xs.length):xs.getD i .top∈xs:=by
 simp only [z7,ze hi,zh];exact zo _
def xo1 {H:List Box} {n:Nat} {x:AV} (h:x.pure=true):reach H n x=[]:=by
 cases n with
 | zero=>rfl
 | succ n=>unfold reach;rw [if_pos h]
def xdG {r:AV->Option AV}:∀ {xs ys:List AV},mapO r xs=some ys->ys.length=xs.length/\∀ i,i<xs.length->r (xs.getD i .top)=some (ys.getD i .top)
 | [],ys,h=>by simp [mapO] at h;subst h;simp
 | x::xs,ys,h=>by
  unfold mapO at h;split at h
  . rename_i y zs h1 h2;cases h;obtain ⟨e1,e2⟩:=xdG h2;refine ⟨by simp [e1],fun i hi=>?_⟩
    cases i with
    | zero=>simpa using h1
    | succ i=>have:=e2 i (by simp at hi;omega);simpa using this
  . simp at h
def xAx {r:AV->Option AV} {xs ys:List AV} (h:mapO r xs=some ys) {i:Nat} (hi:i<xs.length):r (xs.getD i .top)=some (ys.getD i .top):=(xdG h).2 i hi
def xzB {H:List Box} {n:Nat} {x y:AV} (h:resE (resolve H n) x=some y) (hx:x.cells.all AV.one=true) :
  y.cells.length=x.cells.length/\∀ j,j<x.cells.length->resolve H n (x.cells.getD j .top)=some (y.cells.getD j .top):=by
 have key:∀ x y:AV,x.cells=[x]->x.one=true->resolve H n x=some y->y.cells.length=x.cells.length/\∀ j,j<x.cells.length->resolve H n (x.cells.getD j .top)=some (y.cells.getD j .top):=by
  intro x y hc h1 hr;have hy:y.cells=[y]:=by
   cases n with
   | zero =>
    unfold resolve at hr;split at hr
    . cases hr;exact hc
    . simp at hr
   | succ n =>
    unfold resolve at hr;split at hr
    . cases hr;exact hc
    . split at hr<;>first
       | (simp [AV.one] at h1;done)
       | (simp at hr;done)
       | (
        split at hr
        . simp at hr
        . split at hr
          . cases hr;rfl
          . simp at hr)
       | (
        split at hr
        . cases hr;rfl
        . simp at hr)
       | (
        split at hr
        . split at hr
          . split at hr
            . cases hr;rfl
            . simp at hr
          . simp at hr
        . simp at hr)
  rw [hc,hy];refine ⟨rfl,fun j hj=>?_⟩
  have:j=0:=by simpa using hj
  subst this;exact hr
 cases x with
 | agg cs =>
  simp only [resE] at h;split at h
  . rename_i ds q;cases h;exact ⟨(xdG q).1,fun j hj=>xAx q hj⟩
  . simp at h
 | top=>simp [AV.cells,AV.one] at hx
 | tuple vs=>simp [AV.cells,AV.one] at hx
 | _=>exact key _ _ rfl (by simpa [AV.cells] using hx) h
def xwG {H:List Box} {n:Nat} {x y:AV} (h:resolve H n x=some y) (hx:x.one=true):y.one=true:=by
 cases n with
 | zero =>
  unfold resolve at h;split at h
  . cases h;exact hx
  . simp at h
 | succ n =>
  unfold resolve at h;split at h
  . cases h;exact hx
  . split at h<;>first
     | (simp [AV.one] at hx;done)
     | (simp at h;done)
     | (
      split at h
      . simp at h
      . split at h
        . cases h;rfl
        . simp at h)
     | (
      split at h
      . cases h;rfl
      . simp at h)
     | (
      split at h
      . split at h
        . split at h
          . cases h;rfl
          . simp at h
        . simp at h
      . simp at h)
def xiu {H:List Box} {n:Nat} {x:AV} (h:x.pure=true):resolve H n x=some x:=by
 cases n<;>simp [resolve,h]
def xsk {H:List Box} {n sz:Nat} {pm:Bool} {xs ys:List AV} (h:mapE pm (resolve H n) xs=some ys) (q:∀ x,x∈xs->x.okElem sz=true) :
  ys.length=xs.length/\(∀ y,y∈ys->y.okElem sz=true)/\(pm=true->ys=xs)/\(¬ pm=true->∀ i j,i<xs.length->j<sz->resolve H n ((xs.getD i .top).cells.getD j .top)=some ((ys.getD i .top).cells.getD j .top)):=by
 unfold mapE at h;split at h
 . rename_i hp;cases h;exact ⟨rfl,q,fun _=>rfl,fun h=>absurd hp h⟩
 . rename_i J;obtain ⟨h1,h2⟩:=xdG h;have at_:∀ i,i<xs.length->xs.getD i .top∈xs:=fun i hi=>by
    simp only [z7,ze hi,zh];exact zo _
   have cell:∀ i,i<xs.length->(ys.getD i .top).cells.length=sz/\∀ j,j<sz->resolve H n ((xs.getD i .top).cells.getD j .top)=some ((ys.getD i .top).cells.getD j .top):=by
    intro i hi;have hk:=q _ (at_ i hi);obtain ⟨e1,e2⟩:=xzB (h2 i hi) (xaU hk);have hl:=xaz hk;exact ⟨by omega,fun j hj=>e2 j (by omega)⟩
   refine ⟨h1,fun y hy=>?_,fun h=>absurd h J,fun _ i j hi hj=>(cell i hi).2 j hj⟩
   obtain ⟨i,hi,rfl⟩:=zp.1 hy;have hi':i<xs.length:=by omega
   obtain ⟨c1,c2⟩:=cell i hi';have e:ys.getD i .top=ys[i]:=by simp [z7,hi]
   rw [e] at c1 c2;simp only [AV.okElem,c1,beq_self_eq_true,Bool.true_and,zI];intro c hc;obtain ⟨j,hj,rfl⟩:=zp.1 hc;have hk:=xaU (q _ (at_ i hi'));have hl:=xaz (q _ (at_ i hi'));have hj':j<sz:=by omega
   have h3:=c2 j hj';have e3:ys[i].cells.getD j .top=ys[i].cells[j]:=by simp [z7,hj]
   rw [e3] at h3;refine xwG h3 ?_;rw [zI] at hk;have O:j<(xs.getD i .top).cells.length:=by omega
   exact hk _ (xaN O)
section
variable {w : World} {A A' : Nat -> Prop} {M M' : Id -> Option MB} {B : Nat} {H : List Box}
def xBf {n:Nat} {id:Id} {e:AV} {bx:Box} (hb:getB H id=some bx) (q:¬ bx.pm=true) (he:e∈bx.xs) {c:AV} (hc:c∈e.cells) {k:Nat} (hk:k∈reach H n c) :
  k∈(match getB H id with|some bx=>if bx.pm=true then [] else bx.xs.flatMap fun (e:AV)=>e.cells.flatMap (reach H n)|none=>[]):=by
 simp only [hb,q,if_false];exact y5.2 ⟨e,he,y5.2 ⟨c,hc,hk⟩⟩
def xBg {n:Nat} {id:Id} {off len:Nat} {e:AV} {bx:Box} (hb:getB H id=some bx) (q:¬ bx.pm=true) (he:e∈(bx.xs.drop off).take len) {c:AV} (hc:c∈e.cells) {k:Nat} (hk:k∈reach H n c) :
  k∈(match getB H id with|some bx=>if bx.pm=true then [] else ((bx.xs.drop off).take len).flatMap fun (e:AV)=>e.cells.flatMap (reach H n)|none=>[]):=by
 simp only [hb,q,if_false];exact y5.2 ⟨e,he,y5.2 ⟨c,hc,hk⟩⟩
def xio {xs:List AV} {c:AV} (h:c∈xs):∃ i,i<xs.length/\xs.getD i .top=c:=by
 obtain ⟨i,hi,rfl⟩:=zp.1 h;exact ⟨i,hi,by simp [z7,hi]⟩
def xcS {H:List Box} {n:Nat} {b:Box} (h:H[n]?=some b):n<H.length:=by
 rcases zJ n H.length with h'|h'
 . exact h'
 . rw [zz h'] at h;simp at h
def xkq {H H':List Box} {x:Id} (h:H[x.base]?=H'[x.base]?):getB H x=getB H' x:=by
 cases x with
 | b n=>exact h
 | r n i j=>simp only [Id.base] at h;simp only [getB,h]
def xlN {H:List Box} {n i j:Nat} {rb:Box} (h:getB H (.r n i j)=some rb):∃ bx:Box,H[n]?=some bx/\(isC bx.ty=false/\rb=tombB\/isC bx.ty=true/\xHY bx.ty j=true/\bx.pm=true/\i<bx.xs.length/\rb=xIn bx ((bx.xs.getD i .top).cells.getD j .top)):=by
 simp only [getB] at h;split at h
 . rename_i bx hb;split at h
   . rename_i q;split at h
     . rename_i hc;simp only [z6] at h;exact ⟨bx,hb,.inr ⟨q,hc.1,hc.2.1,hc.2.2,h.symm⟩⟩
     . simp at h
   . rename_i q;simp only [z6] at h;exact ⟨bx,hb,.inl ⟨q,h.symm⟩⟩
 . simp at h
def xfD {H:List Box} {n i j:Nat} {rb bx:Box} (hb:H[n]?=some bx) (hC:isC bx.ty=true) (h:getB H (.r n i j)=some rb):xHY bx.ty j=true/\bx.pm=true/\i<bx.xs.length/\rb=xIn bx ((bx.xs.getD i .top).cells.getD j .top):=by
 obtain ⟨q,h1,h2⟩:=xlN h;rw [hb] at h1;cases h1;rcases h2 with ⟨h2,_⟩|⟨_,h2⟩
 . rw [hC] at h2;cases h2
 . exact h2
def xdr {H:List Box} {n i j:Nat} {bx:Box} (hb:H[n]?=some bx) (hC:isC bx.ty=true) (hs:xHY bx.ty j=true) (hp:bx.pm=true) (hi:i<bx.xs.length):getB H (.r n i j)=some (xIn bx ((bx.xs.getD i .top).cells.getD j .top)):=by
 simp only [getB,hb,hC];exact if_pos ⟨hs,hp,hi⟩
def xec {H:List Box} {n i j:Nat} {bx:Box} (hb:H[n]?=some bx) (hC:isC bx.ty=false):getB H (.r n i j)=some tombB:=by
 simp only [getB,hb,hC]
def xeM {t:TypeId} {j:Nat} (h:xHY t j=true):isC t=true:=by
 cases hc:isC t with
 | true=>rfl
 | false=>rw [xmZ hc] at h;cases h
def xfM {sz:Nat} {x:AV} (h:xIC sz x=true):∃ ys,x=.list sz ys:=by
 cases x<;>first|(simp [xIC] at h;done)|skip
 rename_i z ys;exact ⟨ys,by rw [zg h]⟩
def xvU (hR:HR w A M B H) (hA:∀ b,b<w.heap.size->A' b->A b) {n i j sz:Nat} {ys:List AV} {v:Value} {bx:Box} (hb:H[n]?=some bx) (hC:isC bx.ty=true) (hx:(bx.xs.getD i .top).cells.getD j .top=.list sz ys)
  (h:Rel w A M v (xI0 n i j (.list sz ys))) (Q:∀ m,M (.r n i j)=some m->0<m.cap->¬ A' m.b):Rel w A' xH9 v (.list sz ys):=by
 obtain ⟨m,hm,V,h1,he⟩:=Rel.osl_inv h;obtain ⟨rb,g1,g2⟩:=hR.box _ m hm;obtain ⟨g4,g5,g6,g7⟩:=xfD hb hC g1;rw [hx] at g7;subst g7;have hv:2*ys.length=m.ver:=g2.ver;obtain ⟨e1,a,rfl,e2⟩:=he hv;have hsz:sz=m.sz:=g2.sz;subst hsz;have J:isC (xIn bx (.list m.sz ys)).ty=false:=xb1 _;simp only [rowLen,Nat.sub_zero,zH] at e1 e2 |-;by_cases hz:ys=[]
 . subst hz;exact .list0 _ _ _
 . have hl:0<ys.length:=List.length_pos_iff.2 hz;have q:0<m.cap:=by omega
   obtain ⟨c,c1,c2,c3⟩:=g2.cells q
   replace c1:=c1.plain (g2.nomap (xaG J))
   have O:=e2 q;subst O;rw [Nat.zero_mul];refine .list m.b 0 m.cap m.sz ys (fun i j=>c.getD (i*m.sz+j) undef) (Q m hm q) (g2.lt q) hz e1 g2.ok (fun i j hi hj=>?_) (fun i j hi hj=>?_)
   . have hk:i*m.sz+j<c.size:=by rw [c2];exact xdQ (by omega) hj
     rw [zH];simp [World.cell?,c1,hk]
   . have h4:=c3 i j hi hj;rw [xaw J,xbf J] at h4;exact h4.mono (fun _ _ _=>rfl) (zd _) hA (MExt.refl _)
def xcs (hR:HR w A M B H) (hA:∀ b,b<w.heap.size->A' b->A b):∀ (n:Nat) (v:Value) (x y:AV),Rel w A M v x->resolve H n x=some y ->
  (∀ id:Id,id.base∈reach H n x->∀ m,M id=some m->0<m.cap->¬ A' m.b)->Rel w A' xH9 v y
 | 0,v,x,y,hx,h,_=>by
  unfold resolve at h;split at h
  . rename_i hp;cases h;exact (hx.mono (fun _ _ _=>rfl) (zd _) hA (MExt.refl M)).pure hp
  . simp at h
 | n+1,v,x,y,hx,h,hid=>by
  unfold resolve at h;unfold reach at hid;split at h
  . rename_i hp;cases h;exact (hx.mono (fun _ _ _=>rfl) (zd _) hA (MExt.refl M)).pure hp
  rename_i hp;simp only [hp,if_false] at hid;split at h
  . rename_i cs;split at h
    case h_2=>simp at h
    rename_i ds af;cases h;obtain ⟨vs,rfl,hs,hr⟩:=hx.agg_inv;obtain ⟨e1,e2⟩:=xdG af;exact .agg vs ds (by omega) fun i hi=>xcs hR hA n _ _ _ (hr i (by omega)) (e2 i (by omega)) fun k hk m hm=>hid k (y5.2 ⟨_,xaN (by omega),hk⟩) m hm
  . rename_i f cs;split at h
    . simp at h
    rename_i ag;split at h
    case h_2=>simp at h
    rename_i ds af;cases h;obtain ⟨vs,rfl,hs,hr⟩:=hx.func_inv ag;obtain ⟨e1,e2⟩:=xdG af;exact .func f vs ds (by omega) (fun i hi=>xcs hR hA n _ _ _ (hr i (by omega)) (e2 i (by omega)) fun k hk m hm=>hid k (y5.2 ⟨_,xaN (by omega),hk⟩) m hm) fun e=>by rw [ag] at e;cases e
  . rename_i id ver i j;split at h
    case h_2=>simp at h
    rename_i bx V;split at h
    case h_2=>simp at h
    rename_i ys ae;split at h
    case isFalse=>simp at h
    rename_i hi;obtain ⟨hi,Q⟩:=hi;cases h;obtain ⟨m,hm,q,rfl⟩:=xkB hR hx V;have Y:=(xaK V).1;have J:0<m.cap:=by have:=q.fits;omega
    obtain ⟨c,h1,h2,h3⟩:=q.cells J
    replace h1:=h1.plain (q.nomap (xcf V))
    obtain ⟨e1,e2,e0,e3⟩:=xsk ae (fun x hx=>q.ok x hx)
    have hsz:=q.sz;have ad:∀ i j,i<bx.xs.length->j<m.sz->w.cell? ⟨m.b,i*m.sz+j,none⟩=some (c.getD (i*m.sz+j) undef):=by
     intro i j hi hj;have hk:i*m.sz+j<c.size:=by rw [h2];exact xdQ (Nat.lt_of_lt_of_le hi q.fits) hj
     simp [World.cell?,h1,hk]
    have ac:¬ A' m.b:=hid id (by simp) m hm J
    have:=Rel.eptr (w:=w) (A:=A') (M:=xH9) m.b 0 m.sz ys i j (fun i j=>c.getD (i*m.sz+j) undef) ac (q.lt J) (by omega) e2
     (fun i j hi hj=>by rw [zH];exact ad i j (by omega) hj)
     (fun i j hi hj=>by
      have h4:=h3 i j (by omega) hj
      rw [xaw Q,xbf Q] at h4;by_cases O:bx.pm=true
      . rw [e0 O];rw [O] at h4;exact h4.mono (fun _ _ _=>rfl) (zd _) hA (MExt.refl _)
      . refine xcs hR hA n _ _ _ h4.unmp (e3 O i j (by omega) hj) fun k hk m' Z=>?_
        refine hid k (List.mem_cons_of_mem _ (xBf Y O (xaN (show i<bx.xs.length by omega)) ?_ hk)) m' Z
        have hl:=xaz (q.ok _ (xaN (show i<bx.xs.length by omega)))
        exact xaN (by omega))
    rw [zH] at this;rw [hsz];exact this
  . rename_i id ver off len;split at h
    case h_2=>simp at h
    rename_i bx V;split at h
    case h_2=>simp at h
    rename_i ys ae;split at h
    case isFalse=>simp at h
    rename_i aj;obtain ⟨aj,Q⟩:=aj;cases h;obtain ⟨m,a,hm,q,an,rfl,ha⟩:=xir hR hx V;have Y:=(xaK V).1;have ai:∀ x,x∈(bx.xs.drop off).take len->x∈bx.xs:=fun x hx=>List.mem_of_mem_drop (List.mem_of_mem_take hx)
    obtain ⟨e1,e2,e0,e3⟩:=xsk ae (fun x hx=>q.ok x (ai x hx))
    have ab:((bx.xs.drop off).take len).length=len:=by simp;omega
    have hg:∀ i,i<len->((bx.xs.drop off).take len).getD i .top=bx.xs.getD (off+i) .top:=fun i hi=>by
     simp [z7,List.getElem?_take,hi,List.getElem?_drop]
    have hsz:=q.sz;rw [ab] at e1;rw [hsz];by_cases hz:len=0
    . have:ys=[]:=zA (by omega)
      subst this;subst hz;exact .list0 _ _ _
    . have ak:=ha (by omega);subst ak
      have J:0<m.cap:=by omega
      obtain ⟨c,h1,h2,h3⟩:=q.cells J
      replace h1:=h1.plain (q.nomap (xcf V))
      have ac:¬ A' m.b:=hid id (by simp) m hm J
      have:=Rel.list (w:=w) (A:=A') (M:=xH9) m.b (off*m.sz) (m.cap - off) m.sz ys (fun i j=>c.getD ((off+i)*m.sz+j) undef) ac (q.lt J) (by intro e;subst e;simp at e1;omega) (by omega) e2
       (fun i j hi hj=>by
        have hk:(off+i)*m.sz+j<c.size:=by rw [h2];exact xdQ (by omega) hj
        rw [show off*m.sz+i*m.sz+j=(off+i)*m.sz+j by rw [Nat.add_mul]]
        simp [World.cell?,h1,hk])
       (fun i j hi hj=>by
        have h4:=h3 (off+i) j (by omega) hj
        cases W:xHY bx.ty j with
        | true =>
         have hc:=xeM W;unfold rowsOk at Q;rw [hc] at Q;simp only [xIr,zf,zI] at Q;have hj':j=xH2 bx.ty:=by unfold xHY at W;rw [hc] at W;exact zg W
         obtain ⟨zs,aa⟩:=xfM (Q.2 _ (xaN (xs:=(bx.xs.drop off).take len) (i:=i) (by omega)))
         rw [hg i (by omega),<-hj'] at aa
         rw [e0 Q.1,hg i (by omega),aa]
         unfold xIk MV at h4;simp only [W] at h4;rw [aa] at h4;cases id with
         | b nn=>exact xvU hR hA Y hc aa h4 fun m' Z h0=>hid (.r nn (off+i) j) (by simp [Id.base]) m' Z h0
         | r nn i' j' =>
          obtain ⟨ao,_,⟨_,rfl⟩|⟨_,_,_,_,rfl⟩⟩:=xlN Y
          . cases hc
          . rw [xue,xb1] at hc;cases hc
        | false =>
        have al:xIk id.base (off+i) j bx.ty ((bx.xs.getD (off+i) .top).cells.getD j .top)=(bx.xs.getD (off+i) .top).cells.getD j .top:=by unfold xIk;rw [W]
        have am:MV M bx j=MP M bx.pm:=by unfold MV;rw [W]
        rw [al,am] at h4;by_cases O:bx.pm=true
        . rw [e0 O,hg i (by omega)]
          rw [O] at h4;exact h4.mono (fun _ _ _=>rfl) (zd _) hA (MExt.refl _)
        . have h5:=e3 O i j (by rw [ab];omega) hj
          rw [hg i (by omega)] at h5
          refine xcs hR hA n _ _ _ h4.unmp h5 fun k hk m' Z=>?_
          have ah:bx.xs.getD (off+i) .top∈(bx.xs.drop off).take len:=by rw [<-hg i (by omega)];exact xaN (by omega)
          refine hid k (List.mem_cons_of_mem _ (xBg Y O ah ?_ hk)) m' Z;have hl:=xaz (q.ok _ (xaN (show off+i<bx.xs.length by omega)))
          exact xaN (by omega))
      rw [e1] at this;exact this
  . simp at h
end
end Go.Sim
namespace Go.Sim
open Go.RowKit
def xIy (H:List Box) (sz:Nat):AV->Option (List AV×Bool)
 | .nils=>some ([],true)
 | .list sz' xs=>if sz'=sz then some (xs,true) else none
 | .osl id ver off len=>match xHx H id ver with
  | some bx=>if bx.sz=sz/\off+len<=bx.xs.length/\isC bx.ty=false then some ((bx.xs.drop off).take len,bx.pm) else none
  | none=>none
 | _=>none
def putCells (e:AV) (j n sz:Nat) (v:AV):AV:=if j=0/\n=sz then v else .agg (e.cells.take j++v.cells++e.cells.drop (j+n))
def absSrc (P:Program) (H:List Box) (t tt e:TypeId) (sz:Nat) (x:AV):Option (List AV×Bool) :=
 if t=tt then xIy H sz x else
  match xHW P tt,xHW P e,x with
  | some tj,some te,.str s=>match tj.d,te.d with
   | .string,.int .u8=>if te.sz=1 then some (s.map fun (u:UInt8)=>.int .u8 u.toNat,true) else none
   | _,_=>none
  | _,_,_=>none
def absApp (H:List Box) (e:TypeId) (te:TI) (s:AV) (ys:List AV) (pm:Bool):Option (AV×List Box) :=
 match s with
 | .nils=>if 0<te.sz/\ys.length*te.bytes<=140737488355328/\ys.length<=xIL/\te.zero.okElem te.sz=true then some (.osl H.length 0 0 ys.length,H++[⟨0,te.sz,e,ys,false,pm⟩]) else none
 | .osl (.b id) ver off len=>match xHx H id ver with
  | some bx=>if off=0/\len=bx.xs.length/\bx.frz=false/\bx.sz=te.sz/\bx.ty=e/\0<te.sz/\(len+ys.length)*te.bytes<=140737488355328/\len+ys.length<=xIL/\te.zero.okElem te.sz=true then
   some (.osl id (ver+1) 0 (len+ys.length),H.set id ⟨ver+1,te.sz,e,bx.xs++ys,false,bx.pm&&pm⟩) else none
  | none=>none
 | _=>none
def xIx (P:Program) (H:List Box) (t tt:TypeId) (s x:AV):Option (AV×List Box) :=
 match xHW P t with
 | some ti=>match ti.d with
  | .slice e=>match xHW P e with
   | some te=>match absSrc P H t tt e te.sz x with
    | some (ys,pm)=>absApp H e te s ys pm
    | none=>none
   | none=>none
  | _=>none
 | none=>none
def absStore (P:Program) (H:List Box) (t:TypeId) (a v:AV):Option (List Box) :=
 match xHW P t,a with
 | some ti,.own (.b id) ver i j=>match xHx H id ver with
  | some bx=>match bx.xs[i]? with
   | some e=>if bx.frz=false/\v.okElem ti.sz=true/\j+ti.sz<=bx.sz/\isC bx.ty=false then some (H.set id ⟨ver,bx.sz,bx.ty,bx.xs.set i (putCells e j ti.sz bx.sz v),false,bx.pm&&v.pure⟩) else none
   | none=>none
  | none=>none
 | _,_=>none
def xh4 (l:List AV):(AV.agg l).cells=l:=rfl
def xIO (l:List Value) (o:Nat) (vs:List Value):List Value:=l.take o++vs++l.drop (o+vs.length)
def xhk {l:List Value} {o:Nat} {vs:List Value} (h:o+vs.length<=l.length) (k:Nat) :
  (xIO l o vs).getD k undef=if o<=k/\k<o+vs.length then vs.getD (k - o) undef else l.getD k undef:=by
 have h1:min o l.length=o:=by omega
 simp only [xIO,zw,z7,zP,zt,h1];by_cases hk:k<o
 . simp [hk,List.getElem?_take,show ¬ o<=k by omega]
 . by_cases q:k<o+vs.length
   . simp [hk,show k - o<vs.length by omega,q,show o<=k by omega]
   . simp only [hk,if_false,show ¬ (k - o<vs.length) by omega,q,and_false,List.getElem?_drop]
     congr 2;omega
def xjC {l:List Value} {o:Nat} {vs:List Value} (h:o+vs.length<=l.length):(xIO l o vs).length=l.length:=by
 simp [xIO];omega
section
variable {P : Program} {w : World} {A : Nat -> Prop} {M : Id -> Option MB} {B : Nat} {H : List Box}
def xfl (l:List Value) (k:Nat):l.toArray.getD k undef=l.getD k undef:=by simp [z7,zu]
def xdm (c:Array Value) (k:Nat):c.toList.getD k undef=c.getD k undef:=by simp [z7,zu]
def MSet (M:Id->Option MB) (id:Id) (m:MB):Id->Option MB:=fun i=>if i=id then some m else M i
def xm5 {id:Id} {m m':MB} (hm:M id=some m) (h:m'=m\/m.ver<m'.ver):MExt M (MSet M id m'):=fun i m1 h1=>by
 by_cases hi:i=id
 . subst hi;rw [hm] at h1;cases h1;exact ⟨m',by simp [MSet],h⟩
 . exact ⟨m1,by simp [MSet,hi,h1],.inl rfl⟩
def Touch (w w':World) (M M':Id->Option MB):Prop :=
 (∀ b,b<w.heap.size->(∀ id m,M id=some m->0<m.cap->m.b≠b)->w'.heap[b]?=w.heap[b]?) /\
 ∀ id m',M' id=some m'->0<m'.cap->(∃ i m,M i=some m/\0<m.cap/\m'.b=m.b)\/w.heap.size<=m'.b
def Touch.of_new {w w':World} {M M':Id->Option MB} (hb:Below w.heap.size w w') (h:∀ id m,M' id=some m->M id=some m\/w.heap.size<=m.b):Touch w w' M M' :=
 ⟨fun b h _=>hb.block b h,fun id m' hm h0=>(h id m' hm).imp (fun h=>⟨id,m',h,h0,rfl⟩) (fun h=>h)⟩
def xbM (H:List Box) (n:Nat):getB H (.b n)=H[n]?:=rfl
def xjX {id:Id} {bx:Box} (hb:getB H id=some bx):id.base<H.length:=by
 cases id with
 | b n=>rw [xbM] at hb;exact xcS hb
 | r n i j =>
  obtain ⟨q,h,_⟩:=xlN hb;exact xcS h
def xqT {id:Id} {bx:Box} {l:List Box} (hb:getB H id=some bx):getB (H++l) id=some bx:=by
 rw [<-hb];exact xkq (zO (xjX hb))
def xwt {n:Nat} {j:Id} {bx':Box} (h:j.base≠n):getB (H.set n bx') j=getB H j :=
 xkq (by rw [zX (Ne.symm h)])
def xc3 {n:Nat} {bx bx':Box} (hb:H[n]?=some bx) (J:isC bx.ty=false) (q:isC bx'.ty=false) {j:Id} (hne:j≠.b n):getB (H.set n bx') j=getB H j:=by
 by_cases hj:j.base=n
 . cases j with
   | b k=>exact absurd (by rw [<-hj];rfl) hne
   | r k i l =>
    simp only [Id.base] at hj;subst hj;rw [xec hb J,xec (zL (xcS hb)) q]
 . exact xwt hj
def xmK (hR:HR w A M B H) {id:Nat} {m m':MB} {bx bx':Box} (q:0<m.cap) (hm:M (.b id)=some m) (hb:H[id]?=some bx) (O:BoxAt w A M B (.b id) m bx) (ac:isC bx.ty=false) (Q:isC bx'.ty=false) (ag:bx.frz=false) {c':Array Value}
  (e1:m'.b=m.b) (e2:m'.cap=m.cap) (e3:m'.sz=m.sz) (e4:m'.ty=m.ty) (e5:m'=m\/m.ver<m'.ver) (f1:bx'.ver=m'.ver) (f2:bx'.sz=m'.sz) (f3:bx'.ty=m'.ty) (f4:bx'.frz=false)
  (ab:bx'.xs.length<=m.cap) (ae:∀ x,x∈bx'.xs->x.okElem m.sz=true) (hsz:c'.size=m.cap*m.sz)
  (hc:∀ i j,i<bx'.xs.length->j<m.sz->Rel w A (MP M bx'.pm) (c'.getD (i*m.sz+j) undef) ((bx'.xs.getD i .top).cells.getD j .top)) :
  HR (w.setRow m.b c') A (MSet M (.b id) m') B (H.set id bx')/\MExt M (MSet M (.b id) m')/\(∀ b,b<w.heap.size->¬ A b->(w.setRow m.b c').heap[b]?=w.heap[b]?)/\Below B w (w.setRow m.b c')/\Touch w (w.setRow m.b c') M (MSet M (.b id) m')/\A m.b:=by
 have Z:A m.b:=(O.guard q).1 ag;have V:MExt M (MSet M (.b id) m'):=xm5 hm e5;have hs:(w.setRow m.b c').heap.size=w.heap.size:=by simp [World.setRow]
 have hw:∀ b,b<w.heap.size->¬ A b->(w.setRow m.b c').heap[b]?=w.heap[b]?:=fun b _ hb=>setRow_other w m.b b c' fun e=>hb (e▸Z)
 obtain ⟨c,h1,h2,h3⟩:=O.cells q;have aa:xHZ m.ty=false:=O.nomap (xaG ac)
 replace h1:=h1.plain aa
 refine ⟨⟨?_,?_,fun b hb=>by rw [hs];exact hR.lt b hb⟩,V,hw,⟨rfl,rfl,rfl,by rw [hs];exact zd _,fun k hk=>setRow_other w m.b k c' fun e=>by have:=O.low q;omega⟩,⟨fun b _ hb=>setRow_other w m.b b c' fun e=>hb (.b id) m hm q e.symm,fun i m1 J _=>?_⟩,Z⟩
 . intro i m1 J;by_cases hi:i=.b id
   . subst hi;have:m1=m':=by simp [MSet] at J;exact J.symm
     subst this;refine ⟨bx',by rw [xbM,zL (xcS hb)],⟨f1,f2,by rw [xbO Q];exact f3,by rw [e2];exact O.capm,by rw [e2];exact ab,by rw [e3];exact ae,fun _=>by rw [e1];exact O.low q,fun _=>by rw [e1,hs];exact O.lt q,fun _=>⟨c',.of (by rw [e4];exact aa) (by rw [e1,e4];exact setRow_heap w m.b c c' m.ty (0,0) h1),by rw [e2,e3];exact hsz,?_⟩,fun _=>⟨fun _=>by rw [e1];exact Z,fun _=>f4⟩⟩⟩
     intro i j hi hj;rw [e3] at hj |-;rw [xaw Q,xbf Q];exact (hc i j hi hj).mono hw (by rw [hs];exact zd _) (fun b _ h=>h) (xqF V _)
   . have ad:M i=some m1:=by simpa [MSet,hi] using J
     obtain ⟨af,g1,g2⟩:=hR.box i m1 ad;have hne:0<m1.cap->m1.b≠m.b:=fun h0 e=>hi (hR.inj i (.b id) m1 m ad hm h0 q e)
     exact ⟨af,by rw [xc3 hb ac Q hi];exact g1,g2.mono (fun h0=>setRow_other w m.b m1.b c' (hne h0)) hw (by rw [hs];exact zd _) (fun b _ h=>h) g2.guard V⟩
 . intro i i' m1 m2 J Y c1 c2 he;by_cases hi:i=.b id<;>by_cases W:i'=.b id
   . rw [hi,W]
   . have g1:m1=m':=by simp [MSet,hi] at J;exact J.symm
     have g2:M i'=some m2:=by simpa [MSet,W] using Y
     rw [hi];exact hR.inj (.b id) i' m m2 hm g2 q c2 (by rw [<-he,g1,e1])
   . have g1:m2=m':=by simp [MSet,W] at Y;exact Y.symm
     have g2:M i=some m1:=by simpa [MSet,hi] using J
     rw [W];exact hR.inj i (.b id) m1 m g2 hm c1 q (by rw [he,g1,e1])
   . exact hR.inj i i' m1 m2 (by simpa [MSet,hi] using J) (by simpa [MSet,W] using Y) c1 c2 he
 . by_cases hi:i=.b id
   . have g1:m1=m':=by simp [MSet,hi] at J;exact J.symm
     exact .inl ⟨.b id,m,hm,q,by rw [g1,e1]⟩
   . rename_i h0;exact .inl ⟨i,m1,by simpa [MSet,hi] using J,h0,rfl⟩
def xAh (hR:HR w A M B H) {id:Nat} {m m':MB} {bx bx':Box} (V:m.cap=0) (hm:M (.b id)=some m) (hb:H[id]?=some bx) (Y:isC bx.ty=false) (O:isC bx'.ty=false)
  (e2:m'.cap=m.cap) (e3:m'.sz=m.sz) (e5:m'=m\/m.ver<m'.ver) (f1:bx'.ver=m'.ver) (f2:bx'.sz=m'.sz) (f3:bx'.ty=m'.ty) (f5:bx'.xs=[]) :
  HR w A (MSet M (.b id) m') B (H.set id bx')/\MExt M (MSet M (.b id) m')/\Touch w w M (MSet M (.b id) m'):=by
 have J:MExt M (MSet M (.b id) m'):=xm5 hm e5;have hc:∀ {p:Prop},0<m'.cap->p:=fun h=>absurd h (by omega)
 refine ⟨⟨?_,?_,hR.lt⟩,J,⟨fun _ _ _=>rfl,fun i m1 q h0=>?_⟩⟩
 . intro i m1 q;by_cases hi:i=.b id
   . subst hi;have:m1=m':=by simp [MSet] at q;exact q.symm
     subst this;exact ⟨bx',by rw [xbM,zL (xcS hb)],⟨f1,f2,by rw [xbO O];exact f3,by rw [e2,V];exact zQ _,by rw [f5];exact zQ _,by rw [f5];simp,hc,hc,hc,hc⟩⟩
   . have aa:M i=some m1:=by simpa [MSet,hi] using q
     obtain ⟨Z,g1,g2⟩:=hR.box i m1 aa;exact ⟨Z,by rw [xc3 hb Y O hi];exact g1,g2.mono (fun _=>rfl) (fun _ _ _=>rfl) (zd _) (fun b _ h=>h) g2.guard J⟩
 . intro i i' m1 m2 q Q c1 c2 he;by_cases hi:i=.b id
   . have g1:m1=m':=by simp [MSet,hi] at q;exact q.symm
     rw [g1] at c1;exact hc c1
   . by_cases W:i'=.b id
     . have g1:m2=m':=by simp [MSet,W] at Q;exact Q.symm
       rw [g1] at c2;exact hc c2
     . exact hR.inj i i' m1 m2 (by simpa [MSet,hi] using q) (by simpa [MSet,W] using Q) c1 c2 he
 . by_cases hi:i=.b id
   . have g1:m1=m':=by simp [MSet,hi] at q;exact q.symm
     rw [g1] at h0;exact hc h0
   . exact .inl ⟨i,m1,by simpa [MSet,hi] using q,h0,rfl⟩
def Writes (P:Program) (o:Oper) (ρc:Operand->Value) (w:World) (A:Nat->Prop) (M:Id->Option MB) (B:Nat) (x:AV) (H':List Box):Prop :=
 ∃ n w' A' M' v,(execOp ρc o).run P w=.ok n w'/\((n=.value v)\/(n=.skip/\v=undef))/\Below B w w'/\MExt M M'/\(∀ b,b<w.heap.size->(A' b↔A b))/\(∀ b,b<w.heap.size->¬ A b->w'.heap[b]?=w.heap[b]?)/\Touch w w' M M'/\HR w' A' M' B H'/\Rel w' A' M' v x
def xAj {v:Value} {x:AV} (h:Rel w A M v x) (hx:x.cells.all AV.one=true):∀ u,u∈v.cells.toList->u.oneCell'=true:=by
 intro u hu;obtain ⟨h1,h2⟩:=h.cells hx;obtain ⟨i,hi,rfl⟩:=zp.1 hu;have hi':i<x.cells.length:=by simp at hi;omega
 have:=h2 i hi';have e:v.cells.getD i undef=v.cells.toList[i]:=by simp at hi;simp [hi]
 rw [e] at this;refine this.oneCell ?_;rw [zI] at hx;exact hx _ (xaN hi')
def xwP (hR:HR w A M B H) {o:Oper} {ρc:Operand->Value} {t:TypeId} {oa ov:Operand} {xa xv:AV} {H':List Box} (ho:o.op=.store t oa ov) (ha:Rel w A M (ρc oa) xa) (hv:Rel w A M (ρc ov) xv) (h:absStore P H t xa xv=some H') :
  Writes P o ρc w A M B (.tuple []) H':=by
 unfold absStore at h;split at h
 case h_2=>simp at h
 rename_i ti id ver i j an;split at h
 case h_2=>simp at h
 rename_i bx ac;split at h
 case h_2=>simp at h
 rename_i e he;split at h
 case isFalse=>simp at h
 rename_i ar;obtain ⟨ao,aj,az,O⟩:=ar;cases h;obtain ⟨m,hm,q,aw⟩:=xkB hR ha ac;obtain ⟨au,ap⟩:=xaK ac;have Q:0<m.cap:=by
  have:=q.fits;have:0<bx.xs.length:=List.length_pos_of_mem (List.mem_of_getElem? he);omega
 obtain ⟨c,h1,h2,h3⟩:=q.cells Q
 replace h1:=h1.plain (q.nomap (xaG O))
 replace h3:∀ i j,i<bx.xs.length->j<m.sz->Rel w A (MP M bx.pm) (c.getD (i*m.sz+j) undef) ((bx.xs.getD i .top).cells.getD j .top):=fun i j hi hj=>by
  have:=h3 i j hi hj;rw [xaw O,xbf O] at this;exact this
 have hty':bx.ty=m.ty:=by rw [<-q.ty,xbO O]
 have ag:=xaz aj;have J:=xaU aj;have ae:=xrE hv J;have ah:(ρc ov).cells.size=ti.sz:=by have:=ae.1;simp at this;omega
 have hi:i<bx.xs.length:=by
  rcases zJ i bx.xs.length with h'|h'
  . exact h'
  . simp [zz h'] at he
 have am:bx.xs.getD i .top=e:=by simp [z7,he]
 have a0:=xaz (q.ok e (List.mem_of_getElem? he));have hsz:=q.sz;have aq:i*m.sz+m.sz<=c.size:=by
  rw [h2];have:(i+1)*m.sz<=m.cap*m.sz:=Nat.mul_le_mul_right _ (Nat.le_trans hi q.fits);rw [Nat.add_mul,Nat.one_mul] at this;exact this
 have Z:i*m.sz+j+(ρc ov).cells.toList.length<=c.toList.length:=by simp;omega
 have V:(putCells e j ti.sz bx.sz xv).cells.length=m.sz/\(∀ k,k<m.sz->(putCells e j ti.sz bx.sz xv).cells.getD k .top=if j<=k/\k<j+ti.sz then xv.cells.getD (k - j) .top else e.cells.getD k .top)/\(putCells e j ti.sz bx.sz xv).cells.all AV.one=true:=by
  unfold putCells;split
  . rename_i hw;obtain ⟨rfl,hw⟩:=hw;exact ⟨by omega,fun k hk=>by rw [if_pos (by omega)];simp,J⟩
  . have ak:min j e.cells.length=j:=by omega
    refine ⟨by rw [xh4];simp;omega,fun k hk=>?_,?_⟩
    . simp only [xh4,zw,z7,zP,zt,ak];by_cases ab:k<j
      . simp [ab,List.getElem?_take,show ¬ j<=k by omega]
      . by_cases af:k<j+ti.sz
        . simp [ab,ag,show k - j<ti.sz by omega,af,show j<=k by omega]
        . simp only [ab,if_false,ag,show ¬ (k - j<ti.sz) by omega,af,and_false,List.getElem?_drop]
          congr 2;omega
    . have h5:=xaU (q.ok e (List.mem_of_getElem? he));rw [zI] at h5 J;simp only [xh4,List.all_append,zf,zI];exact ⟨⟨fun x hx=>h5 x (List.mem_of_mem_take hx),J⟩,fun x hx=>h5 x (List.mem_of_mem_drop hx)⟩
 have ad:=run_storeCells_at P m.b (i*m.sz+j) m.ty (ρc ov).cells.toList 0 c w h1 (by simp;omega) (xAj hv J)
 simp only [Nat.add_zero] at ad;obtain ⟨g1,g2,g3,g4,gt,g5⟩:=xmK (m':=m) (bx':=⟨ver,bx.sz,bx.ty,bx.xs.set i (putCells e j ti.sz bx.sz xv),false,bx.pm&&xv.pure⟩) hR Q hm au q O O ao (c':=(xIO c.toList (i*m.sz+j) (ρc ov).cells.toList).toArray) rfl rfl rfl rfl (.inl rfl)
  (by rw [<-q.ver,<-ap]) hsz hty' rfl (by simpa using q.fits)
  (fun x hx=>by
   rcases List.mem_or_eq_of_mem_set hx with hx|rfl
   . exact q.ok x hx
   . simp only [AV.okElem,V.1,beq_self_eq_true,Bool.true_and];exact V.2.2)
  (by have:=xjC Z;simp at this |-;omega)
  (fun i' j' W Y=>by
   simp at W;rw [xfl,xhk Z];have al:(ρc ov).cells.toList.length=ti.sz:=by simpa using ah
   by_cases ai:i'=i
   . subst ai;have e1:(bx.xs.set i' (putCells e j ti.sz bx.sz xv)).getD i' .top=putCells e j ti.sz bx.sz xv:=by simp [z7,W]
     rw [e1,V.2.1 j' Y,al];by_cases aa:j<=j'/\j'<j+ti.sz
     . rw [if_pos (by omega),if_pos aa,show i'*m.sz+j' - (i'*m.sz+j)=j' - j by omega]
       exact (ae.2 _ (by omega)).mp fun hp=>xeZ (xkC (zf _ _▸hp).2) _
     . rw [if_neg (by omega),if_neg aa,xdm]
       have:=h3 i' j' W Y;rw [am] at this;exact this.mp_and
   . have e1:(bx.xs.set i (putCells e j ti.sz bx.sz xv)).getD i' .top=bx.xs.getD i' .top:=by simp [z7,List.getElem?_set,show ¬ i=i' from fun h=>ai h.symm]
     rw [e1,al,if_neg,xdm]
     . exact (h3 i' j' W Y).mp_and
     . intro aa;rcases zJ i' i with ax|ay
       . have:i'*m.sz+j'<i*m.sz:=xdQ ax Y;omega
       . have h6:(i+1)*m.sz<=i'*m.sz:=Nat.mul_le_mul_right _ (by omega)
         rw [Nat.add_mul,Nat.one_mul] at h6;omega)
 refine ⟨.skip,_,A,_,undef,?_,.inr ⟨rfl,rfl⟩,g4,g2,fun _ _=>Iff.rfl,g3,gt,g1,.tuple #[] [] rfl (by simp)⟩
 simp only [execOp,ho,aw,Instr.storeAt,Instr.sureAddr,storeVar,Sem.run_bind,Sem.run_pure,Result.andThen_ok,xcL an,ah,ne_eq,not_true,if_false];rw [ad];rfl
end
end Go.Sim
namespace Go.Sim
open Go.RowKit
section
variable {P : Program} {w : World} {A : Nat -> Prop} {M : Id -> Option MB} {B : Nat} {H : List Box}
def xsZ (hR:HR w A M B H) {sz:Nat} {v:Value} {x:AV} {ys:List AV} {pm:Bool} (hx:Rel w A M v x) (h:xIy H sz x=some (ys,pm)) :
  (ys=[]/\∃ a c,v=.slice a 0 c)\/∃ b o c,v=.slice (some ⟨b,o,none⟩) ys.length c/\(∀ y,y∈ys->y.okElem sz=true) /\
   ∀ i j,i<ys.length->j<sz->∃ u,w.cell? ⟨b,o+(i*sz+j),none⟩=some u/\Rel w A (MP M pm) u ((ys.getD i .top).cells.getD j .top):=by
 unfold xIy at h;split at h
 . simp only [z6,zb] at h;obtain ⟨rfl,rfl⟩:=h;cases hx;exact .inl ⟨rfl,none,0,rfl⟩
 . split at h
   case isFalse=>simp at h
   rename_i hs;subst hs;simp only [z6,zb] at h;obtain ⟨rfl,rfl⟩:=h;cases hx with
   | list0 a cap _=>exact .inl ⟨rfl,a,cap,rfl⟩
   | list b off cap _ _ val ha hb hne hcap hsz hc hr =>
    exact .inr ⟨b,off,cap,rfl,hsz,fun i j hi hj=>⟨val i j,by rw [<-Nat.add_assoc];exact hc i j hi hj,hr i j hi hj⟩⟩
 . rename_i id ver off len;split at h
   case h_2=>simp at h
   rename_i bx V;split at h
   case isFalse=>simp at h
   rename_i Y;obtain ⟨hsz,aa,O⟩:=Y;simp only [z6,zb] at h;obtain ⟨rfl,rfl⟩:=h;obtain ⟨m,a,hm,q,Z,rfl,ha⟩:=xir hR hx V;have Q:m.sz=sz:=by rw [<-q.sz,hsz]
   have J:((bx.xs.drop off).take len).length=len:=by simp;omega
   by_cases hz:len=0
   . subst hz;exact .inl ⟨by simp,a,_,rfl⟩
   . have W:=ha (by omega);subst W
     refine .inr ⟨m.b,off*m.sz,m.cap - off,by rw [J],fun y hy=>by rw [<-Q];exact q.ok y (List.mem_of_mem_drop (List.mem_of_mem_take hy)),fun i j hi hj=>?_⟩
     rw [J] at hi;rw [<-Q] at hj |-;have:=q.cell' (q.nomap (xaG O)) (show off+i<bx.xs.length by omega) hj
     rw [xaw O,xbf O] at this;rw [Nat.add_mul,Nat.add_assoc] at this;have hg:((bx.xs.drop off).take len).getD i .top=bx.xs.getD (off+i) .top:=by
      simp [z7,List.getElem?_take,hi,List.getElem?_drop]
     rwa [hg]
 . simp at h
def xnQ {t ty e:TypeId} {i:TypeInfo} (ht:P.underlying t=some (.slice e)) (hi:P.info? e=some i) (b:Option Addr) (len cap:Nat) (q:len<=cap) (a:Option Addr) (c:Nat) :
  (Builtin.append_ #[t,t] ty #[.slice b len cap,.slice a 0 c]).run P w=.ok (.slice b len cap) w:=by
 cases a<;>cases b<;>simp [Builtin.append_,run_underlying ht,sizeOf,typeInfo,hi,Builtin.lenOf,Builtin.firstCells,loadCells,loadCellsFrom,q,storeCells]
def xIl (w:World) (b o n:Nat):List Value:=(List.range n).map fun k=>(w.cell? ⟨b,o+k,none⟩).getD undef
def xgO (w:World) (b o n:Nat):(xIl w b o n).length=n:=by simp [xIl]
def xuH {b o n k:Nat} (hk:k<n):(xIl w b o n).getD k undef=(w.cell? ⟨b,o+k,none⟩).getD undef:=by
 simp [xIl,z7,hk]
def xtB {k n sz:Nat} (hk:k<n*sz):k / sz<n:=Nat.div_lt_of_lt_mul (by rwa [Nat.mul_comm])
section src
variable {ys : List AV} {sz b o : Nat} (hsz : 0 < sz) (hs : ∀ i j, i < ys.length -> j < sz -> ∃ u, w.cell? ⟨b, o + (i * sz + j), none⟩ = some u /\ Rel w A M u ((ys.getD i .top).cells.getD j .top))
include hsz hs
def xv2 {k:Nat} (hk:k<ys.length*sz):∃ u,w.cell? ⟨b,o+k,none⟩=some u/\Rel w A M u ((ys.getD (k / sz) .top).cells.getD (k % sz) .top):=by
 have:=hs (k / sz) (k % sz) (xtB hk) (Nat.mod_lt _ hsz);rwa [Nat.mul_comm,Nat.div_add_mod] at this
def xrO (j:Nat) (u:Value) (h:(xIl w b o (ys.length*sz))[j]?=some u):w.cell? ((⟨b,o,none⟩:Addr).add j)=some u:=by
 have hj:j<ys.length*sz:=by
  rcases zJ j (ys.length*sz) with h'|h'
  . exact h'
  . rw [zz (by rw [xgO];exact h')] at h;simp at h
 obtain ⟨u',hu,_⟩:=xv2 hsz hs hj;rw [xfj,hu];simp [xIl,hj,hu] at h;rw [h]
omit hsz in
def xD1 {i j:Nat} (hi:i<ys.length) (hj:j<sz):Rel w A M ((xIl w b o (ys.length*sz)).getD (i*sz+j) undef) ((ys.getD i .top).cells.getD j .top):=by
 obtain ⟨u,hu,hr⟩:=hs i j hi hj;rw [xuH (xdQ hi hj),hu];exact hr
def xD0 (q:∀ y,y∈ys->y.okElem sz=true):∀ u,u∈xIl w b o (ys.length*sz)->u.oneCell'=true:=by
 intro u hu;obtain ⟨k,hk,rfl⟩:=zp.1 hu;have hk':k<ys.length*sz:=by rwa [xgO] at hk
 obtain ⟨u',J,hr⟩:=xv2 hsz hs hk';have e:(xIl w b o (ys.length*sz))[k]=u':=by simp [xIl,J]
 rw [e];have hi:=xtB hk';have h1:=xaU (q _ (xaN hi));have hl:=xaz (q _ (xaN hi));rw [zI] at h1;exact hr.oneCell (h1 _ (xaN (by rw [hl];exact Nat.mod_lt _ hsz)))
end src
def xrW {xs ys:List AV} {c:List Value} {sz:Nat} {news:List Value} (hn:news.length=ys.length*sz)
  (Q:∀ i j,i<xs.length->j<sz->Rel w A M (c.getD (i*sz+j) undef) ((xs.getD i .top).cells.getD j .top))
  (O:∀ i j,i<ys.length->j<sz->Rel w A M (news.getD (i*sz+j) undef) ((ys.getD i .top).cells.getD j .top))
  {c':List Value} (h1:∀ k,k<xs.length*sz->c'.getD k undef=c.getD k undef) (h2:∀ k,k<ys.length*sz->c'.getD (xs.length*sz+k) undef=news.getD k undef) :
  ∀ i j,i<(xs++ys).length->j<sz->Rel w A M (c'.getD (i*sz+j) undef) (((xs++ys).getD i .top).cells.getD j .top):=by
 intro i j hi hj;by_cases q:i<xs.length
 . have e:(xs++ys).getD i .top=xs.getD i .top:=by simp [z7,zP,q]
   rw [e,h1 _ (xdQ q hj)];exact Q i j q hj
 . have e:(xs++ys).getD i .top=ys.getD (i - xs.length) .top:=by simp [z7,zP,q]
   have J:i - xs.length<ys.length:=by simp at hi;omega
   have e2:i*sz+j=xs.length*sz+((i - xs.length)*sz+j):=by
    rw [<-Nat.add_assoc,<-Nat.add_mul,show xs.length+(i - xs.length)=i by omega]
   rw [e,e2,h2 _ (xdQ J hj)];exact O _ j J hj
def xpv {xs ys:List AV} {sz:Nat} (hx:∀ x,x∈xs->x.okElem sz=true) (hy:∀ x,x∈ys->x.okElem sz=true):∀ x,x∈xs++ys->x.okElem sz=true:=fun x q=>by
 rcases zG.1 q with h|h
 . exact hx x h
 . exact hy x h
def HR.drew (hR:HR w A M B H):HR w.drew A M B H:=hR.grow ⟨rfl,rfl,rfl,zd _,fun _ _=>rfl⟩
def HR.ext {H':List Box} (hR:HR w A M B H) (h:∀ n,n<H.length->(∃ id m,id.base=n/\M id=some m)->H'[n]?=H[n]?):HR w A M B H' :=
 ⟨fun id m hm=>by
  obtain ⟨bx,h1,h2⟩:=hR.box id m hm;exact ⟨bx,by rw [xkq (h id.base (xjX h1) ⟨id,m,rfl,hm⟩)];exact h1,h2⟩,hR.inj,hR.lt⟩
def HR.append (hR:HR w A M B H) (l:List Box):HR w A M B (H++l) :=
 hR.ext fun n hn _=>zO hn
def HR.none_of_base (hR:HR w A M B H) {id:Id} (h:H.length<=id.base):M id=none:=by
 cases hm:M id with
 | none=>rfl
 | some m =>
  obtain ⟨bx,h1,_⟩:=hR.box id m hm;have:=xjX h1;omega
def HR.none_of_length (hR:HR w A M B H) {n:Nat} (h:H.length<=n):M (.b n)=none:=hR.none_of_base (id:=.b n) h
def HR.free_of_length (hR:HR w A M B H) {n:Nat} (h:H.length<=n):Free M n:=⟨hR.none_of_base (id:=.b n) h,fun i j=>hR.none_of_base (id:=.r n i j) h⟩
set_option maxHeartbeats 1000000 in
structure Mv (w:World) (A:Nat->Prop) (M:Id->Option MB) (w':World) (A':Nat->Prop) (M':Id->Option MB):Prop where
 size:w.heap.size<=w'.heap.size
 keep:∀ b,b<w.heap.size->¬ A b->w'.heap[b]?=w.heap[b]?
 less:∀ b,b<w.heap.size->A' b->A b
 more:∀ b,b<w.heap.size->A b->(∀ id m,M id=some m->0<m.cap->m.b≠b)->A' b
 ext:MExt M M'
 touch:Touch w w' M M'
def Mv.rel {w w':World} {A A':Nat->Prop} {M M':Id->Option MB} (h:Mv w A M w' A' M') {v:Value} {x:AV} (hr:Rel w A M v x):Rel w' A' M' v x :=
 hr.mono h.keep h.size h.less h.ext
def HR.virt {w:World} {A:Nat->Prop} {M:Id->Option MB} {B:Nat} {H:List Box} (hR:HR w A M B H) (sz:Nat) (ty:TypeId) (pm:Bool) :
  HR w A (MPut M H.length ⟨0,0,sz,0,rty ty⟩) B (H++[⟨0,sz,ty,[],false,pm⟩])/\Mv w A M w A (MPut M H.length ⟨0,0,sz,0,rty ty⟩)/\∀ a,Rel w A (MPut M H.length ⟨0,0,sz,0,rty ty⟩) (.slice a 0 0) (.osl H.length 0 0 0):=by
 have hn:Free M H.length:=hR.free_of_length (zd _);have O:MExt M (MPut M H.length ⟨0,0,sz,0,rty ty⟩):=xm4 hn _;have q:∀ id m',MPut M H.length ⟨0,0,sz,0,rty ty⟩ id=some m'->0<m'.cap->M id=some m':=fun id m' hm h0=>by
  by_cases J:id=.b H.length
  . subst J;simp [MPut] at hm;subst hm;exact absurd h0 (by simp)
  . simpa [MPut,J] using hm
 refine ⟨⟨fun id m' Q=>?_,fun id id' m1 m2 h1 h2 c1 c2 he=>hR.inj id id' m1 m2 (q id m1 h1 c1) (q id' m2 h2 c2) c1 c2 he,hR.lt⟩,⟨zd _,fun _ _ _=>rfl,fun _ _ h=>h,fun _ _ h _=>h,O,⟨fun _ _ _=>rfl,fun id m' hm h0=>.inl ⟨id,m',q id m' hm h0,h0,rfl⟩⟩⟩,fun a=>?_⟩
 . by_cases J:id=.b H.length
   . subst J;have:m'=⟨0,0,sz,0,rty ty⟩:=by simp [MPut] at Q;exact Q.symm
     subst this;have hc:∀ {p:Prop},0<(0:Nat)->p:=fun h=>absurd h (by simp)
     exact ⟨⟨0,sz,ty,[],false,pm⟩,by simp [getB],rfl,rfl,rfl,zQ _,zQ _,fun x hx=>by simp at hx,hc,hc,hc,hc⟩
   . have V:M id=some m':=by simpa [MPut,J] using Q
     obtain ⟨bx,g1,g2⟩:=hR.box id m' V;exact ⟨bx,xqT g1,g2.mono (fun _=>rfl) (fun _ _ _=>rfl) (zd _) (fun _ _ h=>h) g2.guard O⟩
 . exact .osl _ H.length 0 0 0 ⟨0,0,sz,0,rty ty⟩ (by simp [MPut]) (zd _) rfl fun _=>⟨by simp,a,by simp,fun h=>by simp at h⟩
structure ARuns (P:Program) (w:World) (t tt ty e:TypeId) (i:TypeInfo) (z v:Value) (n:Nat) (news:List Value):Prop where
 nil:(n:Int)<=9223372036854775807->n*i.bytes<=281474976710656->(Builtin.append_ #[t,tt] ty #[.slice none 0 0,v]).run P w =
  .ok (.slice (some ⟨w.heap.size,0,none⟩) n (grownCap w n 0 e)) (w.drew.alloc (.cells (news.toArray++Builtin.zeroCells z.cells (grownCap w n 0 e - n)) e))
 grow:∀ (b:Addr) (sLen sCap:Nat) (olds:List Value),olds.length=sLen*i.size->(∀ j u,olds[j]?=some u->w.cell? (b.add j)=some u)->sCap<sLen+n->((sLen+n:Nat):Int)<=9223372036854775807 ->
  Builtin.nextslicecap (sLen+n) sCap*i.bytes<=281474976710656->(Builtin.append_ #[t,tt] ty #[.slice (some b) sLen sCap,v]).run P w =
   .ok (.slice (some ⟨w.heap.size,0,none⟩) (sLen+n) (grownCap w (sLen+n) sCap e))
    (w.drew.alloc (.cells (olds.toArray++news.toArray++Builtin.zeroCells z.cells (grownCap w (sLen+n) sCap e - (sLen+n))) e))
 room:∀ (g sLen sCap:Nat) (cur:Array Value),w.heap[g]?=some (.cells cur e (0,0))->sLen+n<=sCap->sLen*i.size+news.length<=cur.size ->
  (Builtin.append_ #[t,tt] ty #[.slice (some ⟨g,0,none⟩) sLen sCap,v]).run P w =
   .ok (.slice (some ⟨g,0,none⟩) (sLen+n) sCap) (w.setRow g (cur.toList.take (sLen*i.size)++news++cur.toList.drop (sLen*i.size+news.length)).toArray)
def ASrc (P:Program) (w:World) (A:Nat->Prop) (M:Id->Option MB) (t tt ty e:TypeId) (sz:Nat) (v:Value) (ys:List AV) (pm:Bool):Prop :=
 (ys=[]/\∀ b len cap,len<=cap->(Builtin.append_ #[t,tt] ty #[.slice b len cap,v]).run P w=.ok (.slice b len cap) w) \/
 (0<ys.length/\(∀ y,y∈ys->y.okElem sz=true)/\∃ news:List Value,news.length=ys.length*sz /\
  (∀ i j,i<ys.length->j<sz->Rel w A (MP M pm) (news.getD (i*sz+j) undef) ((ys.getD i .top).cells.getD j .top)) /\
  ∀ i z,P.info? e=some i->i.zero=some z->i.size=sz->ARuns P w t tt ty e i z v ys.length news)
def xyY (hR:HR w A M B H) {t ty e:TypeId} {sz:Nat} (J:0<sz) (hu:P.underlying t=some (.slice e)) {i0:TypeInfo} (W:P.info? e=some i0) {v:Value} {x:AV} {ys:List AV} {pm:Bool} (hx:Rel w A M v x) (h:xIy H sz x=some (ys,pm)) :
  ASrc P w A M t t ty e sz v ys pm:=by
 rcases xsZ hR hx h with ⟨he,a,cc,V⟩|⟨b,off,cc,V,Y,q⟩
 . subst V;exact .inl ⟨he,fun b len cap Q=>xnQ hu W b len cap Q a cc⟩
 . subst V;rcases Nat.eq_zero_or_pos ys.length with O|O
   . rw [O];exact .inl ⟨zA O,fun b' len cap Q=>xnQ hu W b' len cap Q _ cc⟩
   . refine .inr ⟨O,Y,xIl w b off (ys.length*sz),xgO _ _ _ _,fun i j hi hj=>xD1 q hi hj,fun i z hi hz hs=>⟨fun h1 h2=>?_,fun b' sLen sCap olds h1 h2 h3 h4 h5=>?_,fun g sLen sCap cur h1 h2 h3=>?_⟩⟩
     . exact run_append_nil (P:=P) w t ty e i z hu hi hz ⟨b,off,none⟩ ys.length cc _ (by rw [xgO,hs]) (xrO J q) O h1 h2
     . exact run_append_grow (P:=P) w t ty e i z hu hi hz b' sLen sCap olds h1 h2 ⟨b,off,none⟩ ys.length cc _ (by rw [xgO,hs]) (xrO J q) h3 h4 h5
     . exact run_append_room (P:=P) w t ty e i hu hi g sLen sCap cur h1 ⟨b,off,none⟩ ys.length cc _ (by rw [xgO,hs]) (xrO J q) (xD0 J q Y) h2 h3
def xoC (w:World) (t u ty e:TypeId) (i:TypeInfo) (z:Value) (ht:P.underlying t=some (.slice e)) (hu:P.underlying u=some .string) (hi:P.info? e=some i) (hz:i.zero=some z) (s:ByteArray)
  (h0:0<s.size) (J:(s.size:Int)<=9223372036854775807) (q:s.size*i.bytes<=281474976710656) :
  (Builtin.append_ #[t,u] ty #[.slice none 0 0,.string s]).run P w =
   .ok (.slice (some ⟨w.heap.size,0,none⟩) s.size (grownCap w s.size 0 e)) (w.drew.alloc (.cells ((Lib.strCells s).toArray++Builtin.zeroCells z.cells (grownCap w s.size 0 e - s.size)) e)):=by
 have hn:s.size≠0:=by omega
 have h63':¬ (9223372036854775807<(s.size:Int)):=by omega
 have h48':¬ (281474976710656<Builtin.nextslicecap s.size 0*i.bytes):=by rw [nextslicecap_zero h0];omega
 have hf:=Lib.run_firstCells_string (P:=P) w.drew i.size s;simp [Builtin.append_,run_underlying ht,run_underlying hu,sizeOf,typeInfo,zeroValue,hi,hz,Builtin.lenOf,hn,h63',h48',Question.forced,run_firstCells_none,hf,newRow,grownCap]
def xoc {t u ty e:TypeId} {i:TypeInfo} (ht:P.underlying t=some (.slice e)) (hu:P.underlying u=some .string) (hi:P.info? e=some i) (b:Option Addr) (len cap:Nat) (q:len<=cap) (s:ByteArray) (h0:s.size=0) :
  (Builtin.append_ #[t,u] ty #[.slice b len cap,.string s]).run P w=.ok (.slice b len cap) w:=by
 have hf:=Lib.run_firstCells_string (P:=P) w i.size s;rw [h0] at hf;have he:Lib.strCells s=[]:=zA (by rw [Lib.strCells_length,h0])
 rw [he] at hf;cases b<;>simp [Builtin.append_,run_underlying ht,run_underlying hu,sizeOf,typeInfo,hi,Builtin.lenOf,h0,q,hf,storeCells]
def xBK {t tt ty e:TypeId} (hu:P.underlying t=some (.slice e)) (J:P.underlying tt=some .string) {i0:TypeInfo} (O:P.info? e=some i0) (s:ByteArray) :
  ASrc P w A M t tt ty e 1 (.string s) (s.data.toList.map fun (u:UInt8)=>.int .u8 u.toNat) true:=by
 have hsz:(s.data.toList.map fun (u:UInt8)=>AV.int .u8 u.toNat).length=s.size:=by rw [za,Array.length_toList];rfl
 rcases Nat.eq_zero_or_pos s.size with q|q
 . exact .inl ⟨zA (by rw [hsz,q]),fun b len cap V=>xoc hu J O b len cap V s q⟩
 . refine .inr ⟨by rw [hsz];exact q,fun y hy=>?_,Lib.strCells s,by rw [Lib.strCells_length,hsz,Nat.mul_one],fun i j hi hj=>?_,fun i z hi hz hs=>⟨fun h1 h2=>?_,fun b' sLen sCap olds h1 h2 h3 h4 h5=>?_,fun g sLen sCap cur h1 h2 h3=>?_⟩⟩
   . obtain ⟨u,_,rfl⟩:=zK.1 hy;rfl
   . have Q:j=0:=by omega
     subst Q;rw [hsz] at hi;have hi':i<s.data.toList.length:=by rw [Array.length_toList];exact hi
     simp only [Nat.mul_one,Nat.add_zero,z7,List.getElem?_map,ze hi',Option.map_some,zh];have hc:(Lib.strCells s)[i]?=some (.int .u8 (s.data.toList[i].toNat:Int)):=by
      simp [Lib.strCells,List.getElem?_map,ze hi']
     rw [hc];exact .int _ _
   . rw [hsz] at h1 h2 |-;exact xoC w t tt ty e i z hu J hi hz s q h1 h2
   . rw [hsz] at h3 h4 h5 |-;exact Lib.run_append_grow_string (P:=P) w t tt ty e i z hu J hi hz b' sLen sCap olds h1 h2 s h3 h4 h5
   . rw [hsz] at h2 |-;rw [hs,Nat.mul_one,Lib.strCells_length] at h3 |-;exact Lib.run_append_room_string (P:=P) w t tt ty e i hu J hi hs g sLen sCap cur h1 s h2 h3
def xmQ (hR:HR w A M B H) {t tt ty e:TypeId} {te:TI} (W:xHW P e=some te) (O:0<te.sz) (hu:P.underlying t=some (.slice e)) {i0:TypeInfo} (J:P.info? e=some i0) {v:Value} {x:AV} {ys:List AV} {pm:Bool} (hx:Rel w A M v x) (h:absSrc P H t tt e te.sz x=some (ys,pm)) :
  ASrc P w A M t tt ty e te.sz v ys pm:=by
 unfold absSrc at h;split at h
 . rename_i Z;subst Z;exact xyY hR O hu J hx h
 . split at h
   case h_2=>simp at h
   rename_i tj ab s Y q;split at h
   case h_2=>simp at h
   rename_i Q aa;split at h
   case isFalse=>simp at h
   rename_i hsz;rw [W] at q;obtain rfl:=(z6 _ _).mp q;simp only [z6,zb] at h;obtain ⟨rfl,rfl⟩:=h;have V:P.underlying tt=some .string:=by rw [xkc Y,Q]
   cases hx with
   | str s =>
    rw [hsz];exact xBK hu V J s
def xwk (hR:HR w A M B H) (hB:B<=w.heap.size) {o:Oper} {ρc:Operand->Value} {c:Call} {t tt e:TypeId} {te:TI} {os ox:Operand} {xs r:AV} {ys:List AV} {pm:Bool} {H':List Box} (ho:o.op=.call c) (b1:c.callee=.builtin .append)
  (cg:c.argTypes.toList=[t,tt]) (cj:c.args.toList=[os,ox]) (hs:Rel w A M (ρc os) xs) (b5:xHW P e=some te) (hu:P.underlying t=some (.slice e))
  (aj:∀ v,v=ρc ox->ASrc P w A M t tt o.type e te.sz v ys pm) (h:absApp H e te xs ys pm=some (r,H')) :
  Writes P o ρc w A M B r H':=by
 unfold absApp at h;obtain ⟨i,z,az,co,a3,ak,a8,bq,_⟩:=xba b5;have af:isC e=false:=xjw b5;have hts':c.argTypes=#[t,tt]:=by apply Array.ext';simpa using cg
 have has':c.args=#[os,ox]:=by apply Array.ext';simpa using cj
 have Y:∀ v w',(Builtin.append_ #[t,tt] o.type #[ρc os,ρc ox]).run P w=.ok v w'->(execOp ρc o).run P w=.ok (.value v) w':=by
  intro v w' hv;simp [execOp,ho,resolve,b1,hts',has',invoke,builtin,hv,Go.resolve]
 replace aj:=aj _ rfl
 split at h
 ·
  have ae:ρc os=.slice none 0 0:=by
   generalize ρc os=v at hs;cases hs;rfl
  rw [ae] at Y;split at h
  case isFalse=>simp at h
  rename_i bk;obtain ⟨bz,a5,bj,ab⟩:=bk;simp only [z6,zb] at h;obtain ⟨rfl,rfl⟩:=h;rcases aj with ⟨rfl,a0⟩|⟨bw,ad,news,Q,ar,V⟩
  . obtain ⟨g1,g2,g3⟩:=hR.virt te.sz e pm;exact ⟨_,w,A,_,.slice none 0 0,Y _ _ (a0 none 0 0 (zd _)),.inl rfl,Below.refl _ _,g2.ext,fun _ _=>Iff.rfl,fun _ _ _=>rfl,g2.touch,g1,g3 none⟩
  have cl:ys.length<=4611686018427387904:=bj;have ay:Rel w A M z te.zero:=by rw [bq];exact xcZ w A M z
  obtain ⟨b3,_⟩:=ay.cells (xaU ab);have b4:=xaz ab;have q:=(V i z az a3 ak.symm).nil (by omega) (by rw [<-a8];omega)
  have ac:=grownCap_ge w ys.length 0 e;have ag:=grownCap_le_maxLen w ys.length 0 e (by unfold maxLen;omega)
  generalize hcap:grownCap w ys.length 0 e=cap at q ac ag;have cn:H.length<(H++[(⟨0,te.sz,e,ys,false,pm⟩:Box)]).length:=by simp
  have hR':HR w.drew A M B (H++[⟨0,te.sz,e,ys,false,pm⟩]):=hR.drew.append _;have ai:(Builtin.zeroCells z.cells (cap - ys.length)).size=(cap - ys.length)*te.sz:=by rw [size_zeroCells];congr 1;omega
  have ce:=xkd (bx:=⟨0,te.sz,e,ys,false,pm⟩) (nid:=H.length) (c:=news.toArray++Builtin.zeroCells z.cells (cap - ys.length)) (cap:=cap) hR' (by simpa using hB) (hR.free_of_length (zd _)) af (by simp) ag
   (by rw [Array.size_append,List.size_toArray,Q,ai,<-Nat.add_mul];congr 1;omega) ac ad
   (fun i' j aa hj=>by
    have hk:i'*te.sz+j<ys.length*te.sz:=xdQ aa hj;have e1:(news.toArray++Builtin.zeroCells z.cells (cap - ys.length)).getD (i'*te.sz+j) undef=news.getD (i'*te.sz+j) undef:=by
     simp only [zu,Array.getElem?_append,List.size_toArray,Q,hk,if_true,List.getElem?_toArray,z7]
    rw [e1];exact (ar _ _ aa hj).grow ⟨rfl,rfl,rfl,zd _,fun _ _=>rfl⟩)
  obtain ⟨s1,s2,s3,s4,s5⟩:=ce;have J:Below w.heap.size w (w.drew.alloc (.cells (news.toArray++Builtin.zeroCells z.cells (cap - ys.length)) e)):=((Below.refl _ _).drew).alloc (by simp) _
  exact ⟨_,_,_,_,_,Y _ _ q,.inl rfl,J.mono hB,s1,s2,fun b hb _=>J.block b hb,.of_new J (fun id m' ao=>by
   by_cases b8:id=.b H.length
   . subst b8;exact s3.2 m' ao
   . rw [s3.1 id b8] at ao;exact .inl ao),s4,.osl _ H.length 0 0 ys.length _ s5 (zd _) rfl fun _=>⟨by simpa using ac,some ⟨w.heap.size,0,none⟩,by simp,fun _=>by simp⟩⟩
 . rename_i id ver off len;split at h
   case h_2=>simp at h
   rename_i bx bt;split at h
   case isFalse=>simp at h
   rename_i bk;obtain ⟨rfl,an,b0,hsz,b6,bz,a5,bj,ab⟩:=bk;simp only [z6,zb] at h;obtain ⟨rfl,rfl⟩:=h;have ap:isC bx.ty=false:=by rw [b6];exact af
   obtain ⟨m,a,hm,W,bc,ae,ha⟩:=xir hR hs bt;obtain ⟨bb,ci⟩:=xaK bt;simp only [Nat.sub_zero,zH] at ae bc;have al:m.sz=te.sz:=by rw [<-W.sz,hsz]
   have bg:m.ty=e:=by rw [<-W.ty,xbO ap,b6]
   have bp:m.ver=ver:=by rw [<-W.ver,ci]
   have ck:len+ys.length<=4611686018427387904:=bj;have a4:∀ (c1:Array Value) (cap:Nat),c1.size=cap*te.sz->len+ys.length<=cap->cap<=maxLen->(∀ y,y∈ys->y.okElem te.sz=true) ->
     (∀ i j,i<(bx.xs++ys).length->j<te.sz->Rel w A (MP M (bx.pm&&pm)) (c1.getD (i*te.sz+j) undef) (((bx.xs++ys).getD i .top).cells.getD j .top)) ->
     (Builtin.append_ #[t,tt] o.type #[ρc os,ρc ox]).run P w=.ok (.slice (some ⟨w.heap.size,0,none⟩) (len+ys.length) cap) (w.drew.alloc (.cells c1 e)) ->
     Writes P o ρc w A M B (.osl id (ver+1) 0 (len+ys.length)) (H.set id ⟨ver+1,te.sz,e,bx.xs++ys,false,bx.pm&&pm⟩):=by
    intro c1 cap ax ac ag ad b7 q;have J:Below w.heap.size w (w.drew.alloc (.cells c1 e)):=((Below.refl _ _).drew).alloc (by simp) _
    let m1:MB:=⟨w.heap.size,ver+1,te.sz,cap,e⟩;have a2:MExt M (MSet M id m1):=xm5 hm (.inr (by simp [m1,bp]))
    have hA:∀ b,b<w.heap.size->(APut A w.heap.size false b->A b):=fun b hb h=>by
     rcases h with h|⟨h,_⟩
     . exact h
     . omega
    have ba:∀ u x,Rel w A (MP M (bx.pm&&pm)) u x->Rel (w.drew.alloc (.cells c1 e)) (APut A w.heap.size false) (MP (MSet M id m1) (bx.pm&&pm)) u x:=fun u x hr=>hr.mono (fun b hb _=>J.block b hb) J.size hA (xqF a2 _)
    refine ⟨_,_,APut A w.heap.size false,MSet M id m1,_,Y _ _ q,.inl rfl,J.mono hB,a2,fun b hb=>⟨hA b hb,.inl⟩,fun b hb _=>J.block b hb,.of_new J (fun i m' ao=>?_),⟨?_,?_,?_⟩,.osl _ id (ver+1) 0 (len+ys.length) m1 (by simp [MSet]) (zd _) rfl fun _=>⟨by simpa [m1] using ac,some ⟨w.heap.size,0,none⟩,by simp [m1],fun _=>by simp [m1]⟩⟩
    . by_cases aw:i=id
      . subst aw;have:m'=m1:=by simp [MSet] at ao;exact ao.symm
        subst this;exact .inr (zd _)
      . exact .inl (by simpa [MSet,aw] using ao)
    . intro i' m2 ah;by_cases aw:i'=id
      . subst aw;have:m2=m1:=by simp [MSet] at ah;exact ah.symm
        subst this;refine ⟨_,by rw [xbM,zL (xcS bb)],⟨rfl,rfl,xbO af,ag,by simp [m1];omega,xpv (fun x hx=>by have:=W.ok x hx;rwa [al] at this) ad,fun _=>by simpa [m1] using hB,fun _=>by simp [m1],fun _=>⟨c1,.of (xaG af) (by simpa [m1] using heap_alloc_new w.drew (.cells c1 e)),by simpa [m1] using ax,?_⟩,fun _=>⟨fun _=>.inr ⟨rfl,rfl⟩,fun _=>rfl⟩⟩⟩
        intro i j hi hj;rw [xaw af,xbf af];exact ba _ _ (b7 i j hi hj)
      . have au:M i'=some m2:=by simpa [MSet,aw] using ah
        obtain ⟨bn,g1,g2⟩:=hR.box i' m2 au;exact ⟨bn,by rw [xc3 bb ap af aw];exact g1,g2.mono (fun h0=>J.block _ (g2.lt h0)) (fun b hb _=>J.block b hb) J.size hA (fun h0=>⟨fun hf=>.inl ((g2.guard h0).1 hf),fun hf=>(g2.guard h0).2 (hA _ (g2.lt h0) hf)⟩) a2⟩
    . intro i' a6 m2 m3 ah au b9 cb he;by_cases aa:i'=id<;>by_cases aq:a6=id
      . rw [aa,aq]
      . exfalso;have g1:m2=m1:=by simp [MSet,aa] at ah;exact ah.symm
        have g2:M a6=some m3:=by simpa [MSet,aq] using au
        obtain ⟨bn,_,g3⟩:=hR.box a6 m3 g2;have:=g3.lt cb;rw [<-he,g1] at this;simp [m1] at this
      . exfalso;have g1:m3=m1:=by simp [MSet,aq] at au;exact au.symm
        have g2:M i'=some m2:=by simpa [MSet,aa] using ah
        obtain ⟨bn,_,g3⟩:=hR.box i' m2 g2;have:=g3.lt b9;rw [he,g1] at this;simp [m1] at this
      . exact hR.inj i' a6 m2 m3 (by simpa [MSet,aa] using ah) (by simpa [MSet,aq] using au) b9 cb he
    . intro b hb;rcases hb with hb|⟨rfl,_⟩
      . have:=hR.lt b hb;simp;omega
      . simp
   rcases Nat.eq_zero_or_pos m.cap with O|O
   ·
    have ca:bx.xs=[]:=zA (by omega)
    have cc:len=0:=by omega
    subst cc;rw [O] at ae;rcases aj with ⟨rfl,a0⟩|⟨bw,ad,news,Q,ar,V⟩
    . obtain ⟨g1,g2,g3⟩:=xAh (m':=⟨m.b,ver+1,m.sz,m.cap,m.ty⟩) (bx':=⟨ver+1,te.sz,e,bx.xs++[],false,bx.pm&&pm⟩) hR O hm bb ap af rfl rfl (.inr (by simp [bp])) rfl al.symm bg.symm (by simp [ca])
      exact ⟨_,_,A,_,_,Y _ _ (by rw [ae];simpa using a0 a 0 0 (zd _)),.inl rfl,Below.refl _ _,g2,fun _ _=>Iff.rfl,fun _ _ _=>rfl,g3,g1,.osl _ id (ver+1) 0 0 ⟨m.b,ver+1,m.sz,m.cap,m.ty⟩ (by simp [MSet]) (zd _) rfl fun _=>⟨by simp,a,by simp [O],fun h=>by simp at h;omega⟩⟩
    . have ay:Rel w A M z te.zero:=by rw [bq];exact xcZ w A M z
      obtain ⟨b3,_⟩:=ay.cells (xaU ab);have b4:=xaz ab;have ac:=grownCap_ge w (0+ys.length) 0 e;have ag:=grownCap_le_maxLen w (0+ys.length) 0 e (by unfold maxLen;omega)
      have ai:(Builtin.zeroCells z.cells (grownCap w (0+ys.length) 0 e - ys.length)).size=(grownCap w (0+ys.length) 0 e - ys.length)*te.sz:=by rw [size_zeroCells];congr 1;omega
      refine a4 (news.toArray++Builtin.zeroCells z.cells (grownCap w (0+ys.length) 0 e - ys.length)) (grownCap w (0+ys.length) 0 e) (by rw [Array.size_append,List.size_toArray,Q,ai,<-Nat.add_mul];congr 1;omega) ac ag ad (fun i' j aa hj=>?_) ?_
      . rw [ca,zU] at aa |-;have hk:i'*te.sz+j<ys.length*te.sz:=xdQ aa hj;have e1:(news.toArray++Builtin.zeroCells z.cells (grownCap w (0+ys.length) 0 e - ys.length)).getD (i'*te.sz+j) undef=news.getD (i'*te.sz+j) undef:=by
         simp only [zu,Array.getElem?_append,List.size_toArray,Q,hk,if_true,List.getElem?_toArray,z7]
        rw [e1];exact (ar _ _ aa hj).mp_and'
      . rw [ae];cases a with
        | none =>
         have q:=(V i z az a3 ak.symm).nil (by omega) (by rw [<-a8];simp at a5;omega)
         simpa using q
        | some a =>
         have q:=(V i z az a3 ak.symm).grow a 0 0 [] (by simp) (by simp) (by omega) (by omega) (growslice_fits (by omega) (by rw [<-a8];exact a5))
         simpa using q
   have ch:=ha O;subst ch;simp only [Nat.zero_mul] at ae;obtain ⟨c0,h1,h2,h3⟩:=W.cells O
   replace h1:=h1.plain (W.nomap (xaG ap))
   replace h3:∀ i j,i<bx.xs.length->j<m.sz->Rel w A (MP M bx.pm) (c0.getD (i*m.sz+j) undef) ((bx.xs.getD i .top).cells.getD j .top):=fun i j hi hj=>by
    have:=h3 i j hi hj;rw [xaw ap,xbf ap] at this;exact this
   have cm:A m.b:=(W.guard O).1 b0;rw [al] at h2 h3;rw [bg] at h1;have am:∀ (news:List Value),news.length=ys.length*te.sz->(∀ y,y∈ys->y.okElem te.sz=true)->len+ys.length<=m.cap ->
     (∀ i j,i<ys.length->j<te.sz->Rel w A (MP M pm) (news.getD (i*te.sz+j) undef) ((ys.getD i .top).cells.getD j .top)) ->
     (Builtin.append_ #[t,tt] o.type #[ρc os,ρc ox]).run P w=.ok (.slice (some ⟨m.b,0,none⟩) (len+ys.length) m.cap) (w.setRow m.b (xIO c0.toList (len*te.sz) news).toArray) ->
     Writes P o ρc w A M B (.osl id (ver+1) 0 (len+ys.length)) (H.set id ⟨ver+1,te.sz,e,bx.xs++ys,false,bx.pm&&pm⟩):=by
    intro news Q ad Z bv q;have a1:len*te.sz+news.length<=c0.toList.length:=by
     have cf:c0.toList.length=m.cap*te.sz:=by simpa using h2
     rw [Q,<-Nat.add_mul,cf];exact Nat.mul_le_mul_right _ Z
    obtain ⟨g1,g2,g3,g4,gt,g5⟩:=xmK (m':=⟨m.b,ver+1,m.sz,m.cap,m.ty⟩) (bx':=⟨ver+1,te.sz,e,bx.xs++ys,false,bx.pm&&pm⟩) hR O hm bb W ap af b0 (c':=(xIO c0.toList (len*te.sz) news).toArray) rfl rfl rfl rfl (.inr (by simp [bp]))
     rfl al.symm bg.symm rfl (by simp;omega) (by rw [al];exact xpv (fun x hx=>by rw [<-al];exact W.ok x hx) ad)
     (by have:=xjC a1;simp at this |-;rw [this,h2,al])
     (by
      rw [al];intro i j hi hj;rw [xfl];refine xrW (M:=MP M (bx.pm&&pm)) (c:=c0.toList) Q (fun i j hi hj=>by rw [xdm];exact (h3 i j hi hj).mp_and) (fun i j hi hj=>(bv i j hi hj).mp_and') (fun k hk=>?_) (fun k hk=>?_) i j hi hj
      . rw [xhk a1,if_neg (by rw [an];omega)]
      . rw [xhk a1,if_pos (by rw [an,Q];omega),<-an,show len*te.sz+k - len*te.sz=k by omega])
    exact ⟨_,_,A,_,_,Y _ _ q,.inl rfl,g4,g2,fun _ _=>Iff.rfl,g3,gt,g1,.osl _ id (ver+1) 0 (len+ys.length) ⟨m.b,ver+1,m.sz,m.cap,m.ty⟩ (by simp [MSet]) (zd _) rfl fun _=>⟨by simpa using Z,some ⟨m.b,0,none⟩,by simp,fun _=>by simp⟩⟩
   have bf:len<=m.cap:=bc;rcases aj with ⟨rfl,a0⟩|⟨bw,ad,news,Q,ar,V⟩
   . refine am [] (by simp) (by simp) (by simpa using bf) (by simp) ?_
     have cd:(xIO c0.toList (len*te.sz) []).toArray=c0:=by simp [xIO]
     have bo:w.setRow m.b c0=w:=setRow_self w m.b c0 e (0,0) h1;rw [cd,bo,ae];simpa using a0 (some ⟨m.b,0,none⟩) len m.cap bf
   . by_cases Z:len+ys.length<=m.cap
     . refine am news (Q) ad Z (fun i j hi hj=>ar _ _ hi hj) ?_
       have bh:len*i.size+news.length<=c0.size:=by
        rw [Q,<-ak,<-Nat.add_mul,h2];exact Nat.mul_le_mul_right _ Z
       have:=(V i z az a3 ak.symm).room m.b len m.cap c0 h1 Z bh;rw [ae,this];rw [<-ak];rfl
     . have bi:∀ j u,(c0.toList.take (len*te.sz))[j]?=some u->w.cell? ((⟨m.b,0,none⟩:Addr).add j)=some u:=by
        intro j u a9;rw [List.getElem?_take] at a9;split at a9
        . rw [xfj,zH];simp [World.cell?,h1];simpa using a9
        . simp at a9
       have a7:(c0.toList.take (len*te.sz)).length=len*te.sz:=by
        simp only [zt,Array.length_toList,h2];have:len*te.sz<=m.cap*te.sz:=Nat.mul_le_mul_right _ bf;omega
       have q:=(V i z az a3 ak.symm).grow ⟨m.b,0,none⟩ len m.cap (c0.toList.take (len*te.sz)) (by rw [a7,ak]) bi (by omega) (by omega) (growslice_fits (by omega) (by rw [<-a8];exact a5))
       have ac:=grownCap_ge w (len+ys.length) m.cap e;have ag:=grownCap_le_maxLen w (len+ys.length) m.cap e (by unfold maxLen;omega)
       generalize hcap:grownCap w (len+ys.length) m.cap e=cap at q ac ag;have ay:Rel w A M z te.zero:=by rw [bq];exact xcZ w A M z
       obtain ⟨b3,_⟩:=ay.cells (xaU ab);have b4:=xaz ab;have ai:(Builtin.zeroCells z.cells (cap - (len+ys.length))).size=(cap - (len+ys.length))*te.sz:=by rw [size_zeroCells];congr 1;omega
       generalize be:(c0.toList.take (len*te.sz)).toArray++news.toArray++Builtin.zeroCells z.cells (cap - (len+ys.length))=c1 at q;have ax:c1.size=cap*te.sz:=by
        rw [<-be];simp only [Array.size_append,List.size_toArray,a7,Q,ai,<-Nat.add_mul];congr 1;omega
       have b2:∀ k,k<bx.xs.length*te.sz->c1.toList.getD k undef=c0.toList.getD k undef:=by
        intro k hk;rw [<-an] at hk;rw [<-be];simp only [Array.toList_append,zw,z7,zP,a7,hk,if_true,List.getElem?_take]
       have bu:∀ k,k<ys.length*te.sz->c1.toList.getD (bx.xs.length*te.sz+k) undef=news.getD k undef:=by
        intro k hk;rw [<-an,<-be];simp only [Array.toList_append,zw,z7,zP,a7,show ¬ len*te.sz+k<len*te.sz by omega,if_false,Q,show len*te.sz+k - len*te.sz=k by omega,hk,if_true]
       refine a4 c1 cap ax ac ag ad (fun i j hi hj=>?_) (by rw [ae];exact q)
       rw [<-xdm];exact xrW (M:=MP M (bx.pm&&pm)) (c:=c0.toList) (Q) (fun i j hi hj=>by rw [xdm];exact (h3 i j hi hj).mp_and) (fun i j hi hj=>(ar _ _ hi hj).mp_and') b2 bu i j hi hj
 . simp at h
def xpT (hR:HR w A M B H) (hB:B<=w.heap.size) {o:Oper} {ρc:Operand->Value} {c:Call} {t tt:TypeId} {os ox:Operand} {xs xx r:AV} {H':List Box} (ho:o.op=.call c) (O:c.callee=.builtin .append)
  (Q:c.argTypes.toList=[t,tt]) (Y:c.args.toList=[os,ox]) (hs:Rel w A M (ρc os) xs) (hx:Rel w A M (ρc ox) xx) (h:xIx P H t tt xs xx=some (r,H')) :
  Writes P o ρc w A M B r H':=by
 unfold xIx at h;split at h
 case h_2=>simp at h
 rename_i ti V;split at h
 case h_2=>simp at h
 rename_i e hd;split at h
 case h_2=>simp at h
 rename_i te q;split at h
 case h_2=>simp at h
 rename_i ys pm W;have hu:P.underlying t=some (.slice e):=by rw [xkc V,hd]
 have J:0<te.sz:=by
  unfold absApp at h;split at h
  . split at h
    case isFalse=>simp at h
    rename_i hc;exact hc.1
  . split at h
    case h_2=>simp at h
    split at h
    case isFalse=>simp at h
    rename_i hc;exact hc.2.2.2.2.2.1
  . simp at h
 obtain ⟨i,z,Z,_⟩:=xba q;exact xwk hR hB ho O Q Y hs q hu (fun v hv=>by subst hv;exact xmQ hR q J hu Z hx W) h
def HR.rebuild (hR:HR w A M B H) {w':World} {A':Nat->Prop} {M':Id->Option MB} {H':List Box} (S:Nat->Prop)
  (hH:∀ k,¬ S k->k<H.length->H'[k]?=H[k]?) (hM:∀ j:Id,¬ S j.base->M' j=M j)
  (J:∀ (j:Id) m,¬ S j.base->M j=some m->0<m.cap->w'.heap[m.b]?=w.heap[m.b]?/\(A m.b->A' m.b))
  (hw:∀ b,b<w.heap.size->¬ A b->w'.heap[b]?=w.heap[b]?) (hs:w.heap.size<=w'.heap.size) (hA:∀ b,b<w.heap.size->A' b->A b) (Q:MExt M M')
  (O:∀ (j:Id) m,S j.base->M' j=some m->∃ bx,getB H' j=some bx/\BoxAt w' A' M' B j m bx)
  (q:∀ (j:Id) m j' m',S j.base->M' j=some m->M' j'=some m'->0<m.cap->0<m'.cap->m.b=m'.b->j=j')
  (W:∀ b,A' b->b<w'.heap.size):HR w' A' M' B H':=by
 refine ⟨fun j m hm=>?_,fun j j' m m' h1 h2 c1 c2 he=>?_,W⟩
 . by_cases hj:S j.base
   . exact O j m hj hm
   . rw [hM j hj] at hm;obtain ⟨bx,g1,g2⟩:=hR.box j m hm;refine ⟨bx,by rw [xkq (hH _ hj (xjX g1))];exact g1,g2.mono (fun h0=>(J j m hj hm h0).1) hw hs hA (fun h0=>?_) Q⟩
     rw [g2.guard h0];exact ⟨(J j m hj hm h0).2,hA _ (g2.lt h0)⟩
 . by_cases hj:S j.base
   . exact q j m j' m' hj h1 h2 c1 c2 he
   . by_cases V:S j'.base
     . exact (q j' m' j m V h2 h1 c2 c1 he.symm).symm
     . rw [hM j hj] at h1;rw [hM j' V] at h2;exact hR.inj j j' m m' h1 h2 c1 c2 he
def xm8 {e v:AV} {j sz:Nat} (hj:j<sz) (hl:e.cells.length=sz) (hv:v.cells=[v]):(putCells e j 1 sz v).cells.length=sz/\∀ k,k<sz->(putCells e j 1 sz v).cells.getD k .top=if k=j then v else e.cells.getD k .top:=by
 unfold putCells;split
 . rename_i hw;obtain ⟨rfl,rfl⟩:=hw;refine ⟨by rw [hv];rfl,fun k hk=>?_⟩
   have:k=0:=by omega
   subst this;rw [if_pos rfl,hv];rfl
 . have q:min j e.cells.length=j:=by omega
   refine ⟨by rw [xh4,hv];simp;omega,fun k hk=>?_⟩
   simp only [xh4,hv,zw,z7,zP,zt,q];by_cases O:k<j
   . simp [O,List.getElem?_take,show ¬ k=j by omega]
   . by_cases J:k=j
     . subst J;simp
     . simp only [O,if_false,zF,List.length_nil,show ¬ (k - j<1) by omega,J,List.getElem?_drop]
       congr 2;omega
def xn6 {e v:AV} {j sz:Nat} (hj:j<sz) (he:e.okElem sz=true) (hv:v.cells=[v]) (ho:v.one=true):(putCells e j 1 sz v).okElem sz=true:=by
 have hl:=xaz he;obtain ⟨h1,h2⟩:=xm8 hj hl hv;have h3:=xaU he;simp only [AV.okElem,h1,beq_self_eq_true,Bool.true_and];rw [zI] at h3 |-;intro y hy;obtain ⟨k,hk,rfl⟩:=xio hy;rw [h1] at hk;rw [h2 k hk];split
 . exact ho
 . exact h3 _ (xaN (by omega))
def xH4 (bx:Box) (ver i j:Nat) (v:AV):Box:=⟨ver,bx.sz,bx.ty,bx.xs.set i (putCells (bx.xs.getD i .top) j 1 bx.sz v),bx.frz,bx.pm⟩
def xqm {bx:Box} {ver i j:Nat} {v:AV} (hi:i<bx.xs.length) (hj:j<bx.sz) (hl:(bx.xs.getD i .top).cells.length=bx.sz) (hv:v.cells=[v]) {i' k:Nat} (hk:k<bx.sz) :
  ((xH4 bx ver i j v).xs.getD i' .top).cells.getD k .top=if i'=i/\k=j then v else (bx.xs.getD i' .top).cells.getD k .top:=by
 have hp:=xm8 (e:=bx.xs.getD i .top) (v:=v) hj hl hv;unfold xH4;by_cases q:i'=i
 . subst q;have e1:(bx.xs.set i' (putCells (bx.xs.getD i' .top) j 1 bx.sz v)).getD i' .top=putCells (bx.xs.getD i' .top) j 1 bx.sz v:=by simp [z7,hi]
   rw [e1,hp.2 k hk];simp
 . have e1:(bx.xs.set i (putCells (bx.xs.getD i .top) j 1 bx.sz v)).getD i' .top=bx.xs.getD i' .top:=by simp [z7,List.getElem?_set,show ¬ i=i' from fun h=>q h.symm]
   rw [e1,if_neg (fun h=>q h.1)]
def HR.detach (hR:HR w A M B H) {n i j sz:Nat} {ys:List AV} {m:MB} {bx:Box} (hb:H[n]?=some bx) (al:xHY bx.ty j=true) (hx:(bx.xs.getD i .top).cells.getD j .top=.list sz ys) (hj:j<bx.sz) (au:(bx.xs.getD i .top).cells.length=bx.sz) (hm:M (.r n i j)=some m) :
  let M':Id->Option MB:=fun x=>if x=.b H.length then some ⟨m.b,0,m.sz,m.cap,m.ty⟩ else if x=.r n i j then some ⟨0,m.ver+1,0,0,m.ty⟩ else M x
  HR w A M' B (H.set n (xH4 bx bx.ver i j (.int .i64 ys.length))++[⟨0,sz,rowTy bx.ty,ys,bx.frz,true⟩])/\Mv w A M w A M'/\∀ v,Rel w A M v (xI0 n i j (.list sz ys))->Rel w A M' v (.osl H.length 0 0 ys.length):=by
 intro M';obtain ⟨rb,g1,g2⟩:=hR.box _ m hm;have aa:isC bx.ty=true:=xeM al;obtain ⟨g4,g5,g6,g7⟩:=xfD hb aa g1;rw [hx] at g7;subst g7;have ai:2*ys.length=m.ver:=g2.ver;have hsz:sz=m.sz:=g2.sz;have ak:rowTy bx.ty=m.ty:=by have:=g2.ty;rw [xue,xbO (xb1 _)] at this;exact this
 have hn:n<H.length:=xcS hb;have ae:=hR.free_of_length (n:=H.length) (zd _);have az:(Id.r n i j)≠.b H.length:=fun e=>by cases e
 have Z:M' (.b H.length)=some ⟨m.b,0,m.sz,m.cap,m.ty⟩:=by simp [M']
 have W:M' (.r n i j)=some ⟨0,m.ver+1,0,0,m.ty⟩:=by simp [M']
 have J:∀ x:Id,x≠.b H.length->x≠.r n i j->M' x=M x:=fun x h1 h2=>by simp [M',h1,h2]
 have aj:∀ x m0,M x=some m0->x≠.b H.length:=fun x m0 h e=>by rw [e,ae.1] at h;cases h
 have O:MExt M M':=fun x m0 h=>by
  by_cases q:x=.r n i j
  . subst q;rw [hm] at h;cases h;exact ⟨_,W,.inr (Nat.lt_succ_self _)⟩
  . exact ⟨m0,by rw [J x (aj x m0 h) q];exact h,.inl rfl⟩
 have Y:∀ x m',M' x=some m'->0<m'.cap->∃ y m0,M y=some m0/\m0.b=m'.b/\m0.cap=m'.cap/\(x=.b H.length/\y=.r n i j\/x=y/\y≠.r n i j):=fun x m' h h0=>by
  by_cases h1:x=.b H.length
  . subst h1;rw [Z] at h;cases h;exact ⟨_,m,hm,rfl,rfl,.inl ⟨rfl,rfl⟩⟩
  . by_cases h2:x=.r n i j
    . subst h2;rw [W] at h;cases h;exact absurd h0 (by simp)
    . rw [J x h1 h2] at h;exact ⟨x,m',h,rfl,rfl,.inr ⟨rfl,h2⟩⟩
 have ah:∀ (x:Id) m1 x' m2,M' x=some m1->M' x'=some m2->0<m1.cap->0<m2.cap->m1.b=m2.b->x=x':=fun x m1 x' m2 h1 h2 c1 c2 he=>by
  obtain ⟨y,n1,a1,a2,a3,a4⟩:=Y x m1 h1 c1;obtain ⟨y',n2,b1,b2,b3,b4⟩:=Y x' m2 h2 c2;have:=hR.inj y y' n1 n2 a1 b1 (by omega) (by omega) (by rw [a2,b2,he])
  subst this;rcases a4 with ⟨rfl,e1⟩|⟨rfl,e1⟩<;>rcases b4 with ⟨rfl,e2⟩|⟨rfl,e2⟩
  . rfl
  . exact absurd e1 e2
  . exact absurd e2 e1
  . rfl
 have am:∀ {v:Value} {x:AV},Rel w A M v x->Rel w A M' v x:=fun h=>h.mono (fun _ _ _=>rfl) (zd _) (fun _ _ h=>h) O
 have ag:(H.set n (xH4 bx bx.ver i j (.int .i64 ys.length))++[⟨0,sz,rowTy bx.ty,ys,bx.frz,true⟩])[n]?=some (xH4 bx bx.ver i j (.int .i64 ys.length)):=by
  rw [zO (by simpa using hn),zL hn]
 have Q:(xH4 bx bx.ver i j (.int .i64 ys.length)).xs.length=bx.xs.length:=by simp [xH4]
 have V:∀ i' k,k<bx.sz->((xH4 bx bx.ver i j (.int .i64 ys.length)).xs.getD i' .top).cells.getD k .top=if i'=i/\k=j then .int .i64 ys.length else (bx.xs.getD i' .top).cells.getD k .top:=fun i' k hk=>xqm g6 hj au rfl hk
 have af:∀ k,xHY bx.ty k=true->k=j:=fun k hk=>by
  have hc:=xeM hk;unfold xHY at hk g4;rw [hc] at hk g4;rw [zg hk,zg g4]
 refine ⟨hR.rebuild (fun k=>k=n\/k=H.length) (fun k hk ax=>?_) (fun x q=>J x (fun e=>q (.inr (by rw [e];rfl))) fun e=>q (.inl (by rw [e];rfl))) (fun _ _ _ _ _=>⟨rfl,fun h=>h⟩) (fun _ _ _=>rfl) (zd _) (fun _ _ h=>h) O (fun x m' hS q=>?_) (fun x m1 x' m2 _ h1 h2 c1 c2 he=>ah x m1 x' m2 h1 h2 c1 c2 he) hR.lt,
  ⟨zd _,fun _ _ _=>rfl,fun _ _ h=>h,fun _ _ h _=>h,O,⟨fun _ _ _=>rfl,fun x m' h h0=>?_⟩⟩,fun v hv=>?_⟩
 . rw [zO (by simpa using ax),zX (fun e=>hk (.inl e.symm))]
 . by_cases h1:x=.b H.length
   ·
    subst h1;rw [Z] at q;cases q;have ad:isC (rowTy bx.ty)=false:=xb1 _;refine ⟨⟨0,sz,rowTy bx.ty,ys,bx.frz,true⟩,by rw [xbM,List.getElem?_append_right (by simp)];simp,rfl,hsz,by rw [xbO ad];exact ak,g2.capm,g2.fits,g2.ok,g2.low,g2.lt,fun h0=>?_,fun h0=>g2.guard h0⟩
    obtain ⟨c,c1,c2,c3⟩:=g2.cells h0;refine ⟨c,c1,c2,fun i' j' ab ar=>?_⟩
    have h4:=c3 i' j' ab ar;rw [xaw (t:=(xIn bx (.list sz ys)).ty) (xb1 _),xbf (bx:=xIn bx (.list sz ys)) (xb1 _)] at h4;rw [xaw ad,xbf ad];exact h4
   . by_cases h2:x=.r n i j
     ·
      subst h2;rw [W] at q;cases q;have an:∃ rb,getB (H.set n (xH4 bx bx.ver i j (.int .i64 ys.length))++[⟨0,sz,rowTy bx.ty,ys,bx.frz,true⟩]) (.r n i j)=some rb/\rb=⟨2*ys.length+1,0,rowTy bx.ty,[],bx.frz,true⟩:=by
       refine ⟨_,?_,rfl⟩;rw [xdr ag aa g4 g5 (by rw [Q];exact g6),V i j hj,if_pos ⟨rfl,rfl⟩]
       simp [xIn,rowLen,xH4]
      obtain ⟨rb,r1,rfl⟩:=an;have hc:∀ {p:Prop},0<(0:Nat)->p:=fun h=>absurd h (by simp)
      exact ⟨_,r1,by simp only;omega,rfl,by rw [xbO (xb1 _)];exact ak,zQ _,zQ _,fun x hx=>by simp at hx,hc,hc,hc,hc⟩
     . have ac:x.base=n:=by
        rcases hS with h|h
        . exact h
        . rw [J x h1 h2] at q;rw [hR.none_of_base (by rw [h];exact zd _)] at q;cases q
       rw [J x h1 h2] at q;obtain ⟨bx',k1,k2⟩:=hR.box x m' q;cases x with
       | r n' i' j' =>
        simp only [Id.base] at ac;subst ac;have k3:getB (H.set n' (xH4 bx bx.ver i j (.int .i64 ys.length))++[⟨0,sz,rowTy bx.ty,ys,bx.frz,true⟩]) (.r n' i' j')=some bx':=by
         obtain ⟨e2,e3,e4,e5⟩:=xfD hb aa k1;have ap:=af j' e2;subst ap;have ao:i'≠i:=fun e=>h2 (by rw [e])
         rw [xdr ag aa e2 e3 (by rw [Q];exact e4),V i' j' hj,if_neg (fun e=>ao e.1),e5]
         rfl
        exact ⟨bx',k3,k2.mono (fun _=>rfl) (fun _ _ _=>rfl) (zd _) (fun _ _ h=>h) k2.guard O⟩
       | b n' =>
        simp only [Id.base] at ac;subst ac;rw [xbM,hb] at k1;cases k1;have k4:=k2.mono (w':=w) (fun _=>rfl) (fun _ _ _=>rfl) (zd _) (fun _ _ h=>h) k2.guard O
        refine ⟨_,ag,k4.ver,k4.sz,k4.ty,k4.capm,by rw [Q];exact k4.fits,fun y hy=>?_,k4.low,k4.lt,fun h0=>?_,k4.guard⟩
        . rcases List.mem_or_eq_of_mem_set hy with hy|rfl
          . exact k4.ok y hy
          . rw [<-k4.sz];exact xn6 hj (by rw [k4.sz];exact k4.ok _ (xaN g6)) rfl rfl
        . obtain ⟨c,c1,c2,c3⟩:=k4.cells h0;refine ⟨c,by rw [Q];exact c1,c2,fun i' k ab hk=>?_⟩
          rw [Q] at ab;have h4:=c3 i' k ab hk;have ay:MV M' (xH4 bx bx.ver i j (.int .i64 ys.length)) k=MV M' bx k:=rfl;have aw:xIk n' i' k (xH4 bx bx.ver i j (.int .i64 ys.length)).ty (((xH4 bx bx.ver i j (.int .i64 ys.length)).xs.getD i' .top).cells.getD k .top)=xIk n' i' k bx.ty ((bx.xs.getD i' .top).cells.getD k .top):=by
           rw [V i' k (by rw [k4.sz];exact hk)]
           split
           . rename_i aq;obtain ⟨rfl,rfl⟩:=aq;show xIk n' i' k bx.ty _=_;unfold xIk;rw [g4,hx];rfl
           . rfl
          simp only [Id.base];rw [ay,aw];exact h4
 . obtain ⟨y,m0,a1,a2,a3,_⟩:=Y x m' h h0;exact .inl ⟨y,m0,a1,by omega,a2.symm⟩
 . obtain ⟨m1,b1,b2,b3,b4⟩:=Rel.osl_inv hv;rw [hm] at b1;cases b1;obtain ⟨e1,a,e2,e3⟩:=b4 ai;exact .osl v (.b H.length) 0 0 ys.length _ Z (zd _) b3 fun _=>⟨e1,a,e2,e3⟩
def deadLen:AV->Option Nat
 | .int _ l=>some l.toNat
 | _=>none
def absAdopt (P:Program) (H:List Box) (t:TypeId) (a v:AV):Option (List Box) :=
 match xHW P t,a,v with
 | some ti,.own (.b n) ver i j,.osl (.b id) ver2 off len=>match xHx H (.b n) ver,xHx H (.b id) ver2 with
  | some bx,some b2=>match deadLen ((bx.xs.getD i .top).cells.getD j .top) with
   | some l0=>if ti.sz=1/\bx.frz=false/\xHY bx.ty j=true/\bx.pm=true/\j<bx.sz/\i<bx.xs.length/\(bx.xs.getD i .top).cells.length=bx.sz /\
     b2.frz=false/\b2.pm=true/\isC b2.ty=false/\b2.ty=rowTy bx.ty/\off=0/\len=b2.xs.length/\l0<len then
    some ((H.set id ⟨ver2+1,b2.sz,b2.ty,[],false,true⟩).set n (xH4 bx ver i j (.list b2.sz b2.xs))) else none
   | none=>none
  | _,_=>none
 | _,_,_=>none
def xwj (hR:HR w A M B H) {o:Oper} {ρc:Operand->Value} {t:TypeId} {oa ov:Operand} {xa xv:AV} {H':List Box} (ho:o.op=.store t oa ov) (ha:Rel w A M (ρc oa) xa) (hv:Rel w A M (ρc ov) xv) (h:absAdopt P H t xa xv=some H') :
  Writes P o ρc w A M B (.tuple []) H':=by
 unfold absAdopt at h;split at h
 case h_2=>simp at h
 rename_i ti n ver i j id V off len bk;split at h
 case h_2=>simp at h
 rename_i bx b2 au aq;split at h
 case h_2=>simp at h
 rename_i l0 Z;split at h
 case isFalse=>simp at h
 rename_i b0;obtain ⟨bp,bg,W,bt,am,hi,b7,be,bc,ab,bh,rfl,rfl,cb⟩:=b0;cases h;obtain ⟨m,hm,q,b5⟩:=xkB hR ha au;obtain ⟨m2,a2,al,O,bj,bi,cd⟩:=xir hR hv aq;obtain ⟨ak,bb⟩:=xaK au;obtain ⟨aj,ap⟩:=xaK aq;rw [xbM] at ak aj;have hne:id≠n:=fun e=>by
  subst e;rw [ak] at aj;cases aj;have:=xeM W;rw [ab] at this;cases this
 have Q:0<m.cap:=by have:=q.fits;omega
 obtain ⟨c,h1,h2,h3⟩:=q.cells Q;have a7:xHZ m.ty=false:=q.nomap (xcf au)
 replace h1:=h1.plain a7
 have hsz:=q.sz;have bq:j<m.sz:=by omega
 have ax:(ρc ov).cells=#[ρc ov]:=by rw [bi];rfl
 have az:(ρc ov).cells.size=1:=by rw [ax];rfl
 have bz:i*m.sz+m.sz<=c.size:=by
  rw [h2];have:(i+1)*m.sz<=m.cap*m.sz:=Nat.mul_le_mul_right _ (Nat.le_trans hi q.fits);rw [Nat.add_mul,Nat.one_mul] at this;exact this
 have ar:i*m.sz+j+(ρc ov).cells.toList.length<=c.toList.length:=by simp [az];omega
 have aw:=run_storeCells_at P m.b (i*m.sz+j) m.ty (ρc ov).cells.toList 0 c w h1 (by simp [az];omega) (fun u hu=>by
  rw [ax] at hu;simp only [zv] at hu;subst hu;rw [bi];rfl)
 simp only [Nat.add_zero] at aw;have bv:A m.b:=(q.guard Q).1 bg;generalize ay:(xIO c.toList (i*m.sz+j) (ρc ov).cells.toList).toArray=c' at aw;have b9:c'.size=m.cap*m.sz:=by rw [<-ay];have:=xjC ar;simp at this |-;omega
 have bn:∀ k,c'.getD k undef=if k=i*m.sz+j then ρc ov else c.getD k undef:=fun k=>by
  rw [<-ay,xfl,xhk ar,ax];by_cases hk:k=i*m.sz+j
  . subst hk;simp
  . rw [if_neg (by simp;omega),if_neg hk,xdm]
 have hs:(w.setRow m.b c').heap.size=w.heap.size:=by simp [World.setRow]
 have hw:∀ b,b<w.heap.size->¬ A b->(w.setRow m.b c').heap[b]?=w.heap[b]?:=fun b _ hb=>setRow_other w m.b b c' fun e=>hb (e▸bv)
 let M':Id->Option MB:=fun x=>if x=.b id then some ⟨m2.b,m2.ver+1,m2.sz,0,m2.ty⟩ else if x=.r n i j then some ⟨m2.b,2*b2.xs.length,m2.sz,m2.cap,m2.ty⟩ else M x
 have ah:M' (.b id)=some ⟨m2.b,m2.ver+1,m2.sz,0,m2.ty⟩:=by simp [M']
 have af:M' (.r n i j)=some ⟨m2.b,2*b2.xs.length,m2.sz,m2.cap,m2.ty⟩:=by simp [M']
 have aa:∀ x:Id,x≠.b id->x≠.r n i j->M' x=M x:=fun x h1 h2=>by simp [M',h1,h2]
 have ca:∀ m0,M (.r n i j)=some m0->m0.cap=0/\m0.ver<2*b2.xs.length->m0.ver<2*b2.xs.length:=fun _ _ h=>h.2
 have bf:∀ m0,M (.r n i j)=some m0->m0.ver<2*b2.xs.length:=fun m0 h0=>by
  obtain ⟨rb,k1,k2⟩:=hR.box _ m0 h0;obtain ⟨k4,k5,k6,k7⟩:=xfD ak (xeM W) k1;have k8:=k2.ver;rw [k7] at k8;unfold deadLen at Z;split at Z
  . rename_i kk l hl;simp only [z6] at Z;rw [hl] at k8;simp only [xIn,rowLen] at k8;omega
  . simp at Z
 have Y:MExt M M':=fun x m0 h0=>by
  by_cases e1:x=.b id
  . subst e1;rw [al] at h0;cases h0;exact ⟨_,ah,.inr (Nat.lt_succ_self _)⟩
  . by_cases e2:x=.r n i j
    . subst e2;exact ⟨_,af,.inr (bf m0 h0)⟩
    . exact ⟨m0,by rw [aa x e1 e2];exact h0,.inl rfl⟩
 have ai:∀ x m',M' x=some m'->0<m'.cap->∃ y m0,M y=some m0/\m0.b=m'.b/\m0.cap=m'.cap/\(x=.r n i j/\y=.b id\/x=y/\y≠.b id/\y≠.r n i j):=fun x m' h h0=>by
  by_cases e1:x=.b id
  . subst e1;rw [ah] at h;cases h;exact absurd h0 (by simp)
  . by_cases e2:x=.r n i j
    . subst e2;rw [af] at h;cases h;exact ⟨_,m2,al,rfl,rfl,.inl ⟨rfl,rfl⟩⟩
    . rw [aa x e1 e2] at h;exact ⟨x,m',h,rfl,rfl,.inr ⟨rfl,e1,e2⟩⟩
 have a9:∀ (x:Id) m1 x' m2,M' x=some m1->M' x'=some m2->0<m1.cap->0<m2.cap->m1.b=m2.b->x=x':=fun x m1 x' m2 h1 h2 c1 c2 he=>by
  obtain ⟨y,n1,a1,a2,a3,a4⟩:=ai x m1 h1 c1;obtain ⟨y',n2,b1,b2,b3,b4⟩:=ai x' m2 h2 c2;have:=hR.inj y y' n1 n2 a1 b1 (by omega) (by omega) (by rw [a2,b2,he])
  subst this;rcases a4 with ⟨rfl,e1⟩|⟨rfl,e1,_⟩<;>rcases b4 with ⟨rfl,e2⟩|⟨rfl,e2,_⟩
  . rfl
  . exact absurd e1 e2
  . exact absurd e2 e1
  . rfl
 have ae:∀ (x:Id) m0,x≠.b n->M x=some m0->0<m0.cap->(w.setRow m.b c').heap[m0.b]?=w.heap[m0.b]?:=fun x m0 hx h0 c0=>setRow_other w m.b m0.b c' fun e=>hx (hR.inj x (.b n) m0 m h0 hm c0 Q e)
 have hn:n<H.length:=xcS ak;have b6:id<H.length:=xcS aj;have a6:((H.set id ⟨V+1,b2.sz,b2.ty,[],false,true⟩).set n (xH4 bx ver i j (.list b2.sz b2.xs)))[n]?=some (xH4 bx ver i j (.list b2.sz b2.xs)):=zL (by simpa using hn)
 have ba:((H.set id ⟨V+1,b2.sz,b2.ty,[],false,true⟩).set n (xH4 bx ver i j (.list b2.sz b2.xs)))[id]?=some ⟨V+1,b2.sz,b2.ty,[],false,true⟩:=by
  rw [zX (Ne.symm hne),zL b6]
 have ag:(xH4 bx ver i j (.list b2.sz b2.xs)).xs.length=bx.xs.length:=by simp [xH4]
 have ac:∀ i' k,k<bx.sz->((xH4 bx ver i j (.list b2.sz b2.xs)).xs.getD i' .top).cells.getD k .top=if i'=i/\k=j then .list b2.sz b2.xs else (bx.xs.getD i' .top).cells.getD k .top:=fun i' k hk=>xqm hi am b7 rfl hk
 have a0:∀ k,xHY bx.ty k=true->k=j:=fun k hk=>by
  have hc:=xeM hk;unfold xHY at hk W;rw [hc] at hk W;rw [zg hk,zg W]
 have hR':HR (w.setRow m.b c') A M' B ((H.set id ⟨V+1,b2.sz,b2.ty,[],false,true⟩).set n (xH4 bx ver i j (.list b2.sz b2.xs))):=by
  refine hR.rebuild (fun k=>k=n\/k=id) (fun k hk ce=>?_) (fun x J=>aa x (fun e=>J (.inr (by rw [e];rfl))) fun e=>J (.inl (by rw [e];rfl))) (fun x m0 J h0 c0=>⟨ae x m0 (fun e=>J (.inl (by rw [e];rfl))) h0 c0,fun h=>h⟩) hw (by rw [hs];exact zd _) (fun _ _ h=>h) Y (fun x m' hS J=>?_) (fun x m1 x' m2 _ h1 h2 c1 c2 he=>a9 x m1 x' m2 h1 h2 c1 c2 he) (fun b hb=>by rw [hs];exact hR.lt b hb)
  . rw [zX (fun e=>hk (.inl e.symm)),zX (fun e=>hk (.inr e.symm))]
  . by_cases e1:x=.b id
    ·
     subst e1;rw [ah] at J;cases J;have hc:∀ {p:Prop},0<(0:Nat)->p:=fun h=>absurd h (by simp)
     exact ⟨(⟨V+1,b2.sz,b2.ty,[],false,true⟩:Box),ba,by simp only;rw [<-O.ver,ap],O.sz,O.ty,zQ _,zQ _,fun x hx=>by simp at hx,hc,hc,hc,hc⟩
    . by_cases e2:x=.r n i j
      ·
       subst e2;rw [af] at J;cases J;have bo:getB ((H.set id ⟨V+1,b2.sz,b2.ty,[],false,true⟩).set n (xH4 bx ver i j (.list b2.sz b2.xs))) (.r n i j)=some ⟨2*b2.xs.length,b2.sz,rowTy bx.ty,b2.xs,bx.frz,true⟩:=by
        rw [xdr a6 (xeM W) W bt (by rw [ag];exact hi),ac i j am,if_pos ⟨rfl,rfl⟩]
        rfl
       have k4:=O.mono (w':=w.setRow m.b c') (A':=A) (M':=M') (fun h0=>ae (.b id) m2 (fun e=>hne (by injection e)) al h0) hw (by rw [hs];exact zd _) (fun _ _ h=>h) O.guard Y
       refine ⟨_,bo,rfl,k4.sz,by rw [<-bh];exact k4.ty,k4.capm,k4.fits,k4.ok,k4.low,k4.lt,fun h0=>?_,fun h0=>?_⟩
       . obtain ⟨cc,c1,c2,c3⟩:=k4.cells h0;refine ⟨cc,c1,c2,fun i' k an hk=>?_⟩
         have h4:=c3 i' k an hk;rw [xaw ab,xbf ab,bc] at h4;rw [xaw (xb1 _),xbf (bx:=⟨2*b2.xs.length,b2.sz,rowTy bx.ty,b2.xs,bx.frz,true⟩) (xb1 _)];exact h4
       . have:=k4.guard h0;rw [be] at this;rw [bg];exact this
      . by_cases ad:x.base=id
        ·
         rw [aa x e1 e2] at J;obtain ⟨bx',k1,k2⟩:=hR.box x m' J;cases x with
         | b k=>exact absurd (by rw [<-ad];rfl) e1
         | r k i' j' =>
          simp only [Id.base] at ad;subst ad;rw [xec aj ab] at k1;cases k1;exact ⟨tombB,xec ba ab,k2.mono (fun h0=>ae _ m' (fun e=>by cases e) J h0) hw (by rw [hs];exact zd _) (fun _ _ h=>h) k2.guard Y⟩
        have ao:x.base=n:=by
         rcases hS with h|h
         . exact h
         . exact absurd h ad
        rw [aa x e1 e2] at J;obtain ⟨bx',k1,k2⟩:=hR.box x m' J;cases x with
        | r n' i' j' =>
         simp only [Id.base] at ao;subst ao;have k3:getB ((H.set id ⟨V+1,b2.sz,b2.ty,[],false,true⟩).set n' (xH4 bx ver i j (.list b2.sz b2.xs))) (.r n' i' j')=some bx':=by
          obtain ⟨a8,e3,e4,e5⟩:=xfD ak (xeM W) k1;have bw:=a0 j' a8;subst bw;have bu:i'≠i:=fun e=>e2 (by rw [e])
          rw [xdr a6 (xeM W) a8 e3 (by rw [ag];exact e4),ac i' j' am,if_neg (fun e=>bu e.1),e5]
          rfl
         exact ⟨bx',k3,k2.mono (fun h0=>ae _ m' (fun e=>by cases e) J h0) hw (by rw [hs];exact zd _) (fun _ _ h=>h) k2.guard Y⟩
        | b n' =>
         simp only [Id.base] at ao;subst ao;rw [hm] at J;cases J;refine ⟨xH4 bx ver i j (.list b2.sz b2.xs),a6,by rw [<-q.ver,bb];rfl,q.sz,q.ty,q.capm,by rw [ag];exact q.fits,fun y hy=>?_,q.low,fun h0=>by rw [hs];exact q.lt h0,fun h0=>?_,q.guard⟩
         . rcases List.mem_or_eq_of_mem_set hy with hy|rfl
           . exact q.ok y hy
           . rw [<-q.sz];exact xn6 am (by rw [q.sz];exact q.ok _ (xaN hi)) rfl rfl
         . refine ⟨c',.of a7 (setRow_heap w m.b c c' m.ty (0,0) h1),b9,fun i' k an hk=>?_⟩
           rw [ag] at an;have b8:MV M' (xH4 bx ver i j (.list b2.sz b2.xs)) k=MV M' bx k:=rfl;show Rel _ _ (MV M' (xH4 bx ver i j (.list b2.sz b2.xs)) k) _ (xIk n' i' k bx.ty _);rw [b8,ac i' k (by omega),bn]
           by_cases a5:i'=i/\k=j
           . obtain ⟨rfl,rfl⟩:=a5;rw [if_pos rfl,if_pos ⟨rfl,rfl⟩];unfold MV xIk;rw [W];obtain ⟨m3,q1,q2,q3,q4⟩:=Rel.osl_inv hv;rw [al] at q1;cases q1;obtain ⟨q5,a,q6,q7⟩:=q4 (by rw [<-ap,O.ver])
             exact .osl _ (.r n' i' k) _ _ _ _ af (zd _) q3 fun _=>⟨q5,a,q6,q7⟩
           . rw [if_neg a5,if_neg (fun e=>a5 (xDz hk bq e))]
             exact (h3 i' k an hk).mono hw (by rw [hs];exact zd _) (fun _ _ h=>h) (xte Y bx k)
 refine ⟨.skip,w.setRow m.b c',A,M',undef,?_,.inr ⟨rfl,rfl⟩,⟨rfl,rfl,rfl,by rw [hs];exact zd _,fun k hk=>setRow_other w m.b k c' fun e=>by have:=q.low Q;omega⟩,Y,fun _ _=>Iff.rfl,hw,⟨fun b _ hb=>setRow_other w m.b b c' fun e=>hb (.b n) m hm Q e.symm,fun x m' h h0=>?_⟩,hR',.tuple #[] [] rfl (by simp)⟩
 . simp only [execOp,ho,b5,Instr.storeAt,Instr.sureAddr,storeVar,Sem.run_bind,Sem.run_pure,Result.andThen_ok,xcL bk,bp,az,ne_eq,not_true,if_false];rw [aw,<-ay];rfl
 . obtain ⟨y,m0,a1,a2,a3,_⟩:=ai x m' h h0;exact .inl ⟨y,m0,a1,by omega,a2.symm⟩
def newRow (t:TypeId) (sz:Nat) (y:AV):AV:=putCells y (xH2 t) 1 sz (.list (rowSz t) [])
def xq1 {t:TypeId} {sz:Nat} {y:AV} (hs:xH2 t<sz) (hy:y.okElem sz=true) {k:Nat} (hk:k<sz):(newRow t sz y).cells.getD k .top=if k=xH2 t then .list (rowSz t) [] else y.cells.getD k .top :=
 (xm8 hs (xaz hy) rfl).2 k hk
def xoE {t:TypeId} {k:Nat}:xHY t k=true->k=xH2 t:=fun h=>by
 have hc:=xeM h;unfold xHY at h;rw [hc] at h;exact zg h
def HR.grown (hR:HR w A M B H) {n:Nat} {m m':MB} {bx:Box} {w':World} {A':Nat->Prop} {c':Array Value} {ys:List AV}
  (hm:M (.b n)=some m) (hb:H[n]?=some bx) (J:BoxAt w A M B (.b n) m bx) (a7:bx.frz=false) (hC:isC bx.ty=true) (ay:xHZ m.ty=false) (ar:bx.pm=true) (ad:xH2 bx.ty<m.sz)
  (hw:∀ b,b<w.heap.size->¬ A b->w'.heap[b]?=w.heap[b]?) (hs:w.heap.size<=w'.heap.size) (hA:∀ b,b<w.heap.size->A' b->A b)
  (Y:∀ x m0,x≠.b n->M x=some m0->0<m0.cap->w'.heap[m0.b]?=w.heap[m0.b]?/\(A m0.b->A' m0.b))
  (e1:m'.ver=m.ver+1) (e2:m'.sz=m.sz) (e3:m'.ty=m.ty) (hcap:bx.xs.length+ys.length<=m'.cap) (ba:m'.cap<=maxLen) (ao:B<=m'.b) (bb:m'.b<w'.heap.size) (a6:A' m'.b)
  (hc:w'.heap[m'.b]?=some (.cells c' m'.ty (0,0))) (be:c'.size=m'.cap*m.sz) (a5:m'.b=m.b/\0<m.cap\/w.heap.size<=m'.b)
  (au:∀ i j,i<bx.xs.length->j<m.sz->Rel w A (MV M bx j) (c'.getD (i*m.sz+j) undef) (xIk n i j bx.ty ((bx.xs.getD i .top).cells.getD j .top)))
  (aq:∀ i j,i<ys.length->j<m.sz->Rel w A xH9 (c'.getD ((bx.xs.length+i)*m.sz+j) undef) ((ys.getD i .top).cells.getD j .top))
  (aj:∀ y,y∈ys->y.okElem m.sz=true) (aw:∀ y,y∈ys->y.cells.getD (xH2 bx.ty) .top=.nils) (ax:∀ b,A' b->b<w'.heap.size) :
  ∃ M',HR w' A' M' B (H.set n ⟨bx.ver+1,bx.sz,bx.ty,bx.xs++ys.map (newRow bx.ty bx.sz),false,true⟩)/\MExt M M'/\M' (.b n)=some m'/\∀ x m0,M' x=some m0->0<m0.cap->x=.b n/\m0=m'\/M x=some m0/\x≠.b n:=by
 have hn:n<H.length:=xcS hb;let M':Id->Option MB:=fun x=>if x=.b n then some m' else match x with
  | .b _=>M x
  | .r k i j=>if k=n/\bx.xs.length<=i/\i<bx.xs.length+ys.length/\j=xH2 bx.ty then some ⟨0,0,rowSz bx.ty,0,rowTy bx.ty⟩ else M x
 have ab:M' (.b n)=some m':=by simp [M']
 have af:∀ i,bx.xs.length<=i->i<bx.xs.length+ys.length->M' (.r n i (xH2 bx.ty))=some ⟨0,0,rowSz bx.ty,0,rowTy bx.ty⟩:=fun i h1 h2=>by simp [M',h1,h2]
 have aa:∀ x:Id,x≠.b n->(∀ i,bx.xs.length<=i->i<bx.xs.length+ys.length->x≠.r n i (xH2 bx.ty))->M' x=M x:=fun x h1 h2=>by
  cases x with
  | b k=>simp [M',h1]
  | r k i j =>
   have:¬ (k=n/\bx.xs.length<=i/\i<bx.xs.length+ys.length/\j=xH2 bx.ty):=fun ⟨a1,a2,a3,a4⟩=>h2 i a2 a3 (by rw [a1,a4])
   simp [M',this]
 have ah:∀ i j,bx.xs.length<=i->M (.r n i j)=none:=fun i j hi=>by
  cases h:M (.r n i j) with
  | none=>rfl
  | some m0 =>
   obtain ⟨rb,k1,_⟩:=hR.box _ m0 h;obtain ⟨_,_,k3,_⟩:=xfD hb hC k1;omega
 have Q:MExt M M':=fun x m0 h0=>by
  by_cases h1:x=.b n
  . subst h1;rw [hm] at h0;cases h0;exact ⟨m',ab,.inr (by omega)⟩
  . exact ⟨m0,by rw [aa x h1 fun i hi _ e=>by subst e;rw [ah i _ hi] at h0;cases h0];exact h0,.inl rfl⟩
 have Z:∀ x m0,M' x=some m0->x=.b n/\m0=m'\/(∃ i,bx.xs.length<=i/\i<bx.xs.length+ys.length/\x=.r n i (xH2 bx.ty)/\m0=⟨0,0,rowSz bx.ty,0,rowTy bx.ty⟩)\/(M x=some m0/\x≠.b n):=fun x m0 h=>by
  by_cases h1:x=.b n
  . subst h1;rw [ab] at h;simp only [z6] at h;exact .inl ⟨rfl,h.symm⟩
  . by_cases h2:∃ i,bx.xs.length<=i/\i<bx.xs.length+ys.length/\x=.r n i (xH2 bx.ty)
    . obtain ⟨i,a1,a2,rfl⟩:=h2;rw [af i a1 a2] at h;simp only [z6] at h;exact .inr (.inl ⟨i,a1,a2,rfl,h.symm⟩)
    . rw [aa x h1 fun i a1 a2 e=>h2 ⟨i,a1,a2,e⟩] at h
      exact .inr (.inr ⟨h,h1⟩)
 have q:∀ x m0,M' x=some m0->0<m0.cap->x=.b n/\m0=m'\/M x=some m0/\x≠.b n:=fun x m0 h h0=>by
  rcases Z x m0 h with h|⟨i,_,_,_,rfl⟩|h
  . exact .inl h
  . exact absurd h0 (by simp)
  . exact .inr h
 have am:∀ x m0,M x=some m0->x≠.b n->0<m0.cap->m0.b≠m'.b:=fun x m0 h hx h0 e=>by
  rcases a5 with ⟨h1,h2⟩|h1
  . exact hx (hR.inj x (.b n) m0 m h hm h0 h2 (by rw [e,h1]))
  . obtain ⟨bf,_,k2⟩:=hR.box x m0 h;have:=k2.lt h0;omega
 have V:(bx.xs++ys.map (newRow bx.ty bx.sz)).length=bx.xs.length+ys.length:=by simp
 have ak:(H.set n ⟨bx.ver+1,bx.sz,bx.ty,bx.xs++ys.map (newRow bx.ty bx.sz),false,true⟩)[n]?=some ⟨bx.ver+1,bx.sz,bx.ty,bx.xs++ys.map (newRow bx.ty bx.sz),false,true⟩:=zL hn;have hsz:=J.sz;have an:∀ i,i<bx.xs.length->(bx.xs++ys.map (newRow bx.ty bx.sz)).getD i .top=bx.xs.getD i .top:=fun i hi=>by simp [z7,zP,hi]
 have ap:∀ i,i<ys.length->(bx.xs++ys.map (newRow bx.ty bx.sz)).getD (bx.xs.length+i) .top=newRow bx.ty bx.sz (ys.getD i .top):=fun i hi=>by
  simp [z7,zP,hi]
 have O:xHY bx.ty (xH2 bx.ty)=true:=by unfold xHY;rw [hC];exact Nat.beq_refl _
 refine ⟨M',hR.rebuild (fun k=>k=n) (fun k hk _=>zX (fun e=>hk e.symm)) (fun x hx=>aa x (fun e=>hx (by rw [e];rfl)) fun i _ _ e=>hx (by rw [e];rfl)) (fun x m0 hx h0 c0=>Y x m0 (fun e=>hx (by rw [e];rfl)) h0 c0) hw hs hA Q (fun x m0 hx a9=>?_) (fun x m1 x' m2 _ h1 h2 c1 c2 he=>?_) ax,Q,ab,q⟩
 . rcases Z x m0 a9 with ⟨rfl,rfl⟩|⟨i,a1,a2,rfl,rfl⟩|⟨h0,hne⟩
   ·
    refine ⟨_,ak,by simp only;rw [J.ver,e1],by rw [e2];exact hsz,by rw [e3];exact J.ty,ba,by rw [V];exact hcap,fun y hy=>?_,fun _=>ao,fun _=>bb,fun _=>⟨c',.of (by rw [e3];exact ay) hc,by rw [e2];exact be,fun i j hi hj=>?_⟩,fun _=>⟨fun _=>a6,fun _=>rfl⟩⟩
    . rw [e2];rcases zG.1 hy with hy|hy
      . exact J.ok y hy
      . obtain ⟨y0,a0,rfl⟩:=zK.1 hy;rw [hsz];exact xn6 ad (aj y0 a0) rfl rfl
    . rw [e2] at hj |-;rw [V] at hi;have bc:MV M' (⟨bx.ver+1,bx.sz,bx.ty,bx.xs++ys.map (newRow bx.ty bx.sz),false,true⟩:Box) j=MV M' bx j:=by unfold MV;rw [ar]
      show Rel _ _ (MV M' _ j) _ (xIk n i j bx.ty _);rw [bc];by_cases al:i<bx.xs.length
      . rw [an i al];exact (au i j al hj).mono hw hs hA (xte Q bx j)
      . obtain ⟨i0,rfl⟩:∃ i0,i=bx.xs.length+i0:=⟨i - bx.xs.length,by omega⟩
        have W:i0<ys.length:=by omega
        have h4:=aq i0 j W hj;have ag:=xaN W;rw [ap i0 W,xq1 (by rw [hsz];exact ad) (by rw [hsz];exact aj _ ag) (by rw [hsz];exact hj)]
        by_cases ai:j=xH2 bx.ty
        . subst ai;rw [if_pos rfl];rw [aw _ ag] at h4;have hv:c'.getD ((bx.xs.length+i0)*m.sz+xH2 bx.ty) undef=.slice none 0 0:=by
           generalize c'.getD ((bx.xs.length+i0)*m.sz+xH2 bx.ty) undef=u at h4;cases h4;rfl
          unfold MV xIk;rw [O,hv];exact .osl _ (.r n _ _) _ _ _ _ (af _ (Nat.le_add_right _ _) (by omega)) (zd _) rfl fun _=>⟨zd _,none,rfl,fun h=>absurd h (by simp)⟩
        . have az:xHY bx.ty j=false:=by
           cases hq:xHY bx.ty j with
           | false=>rfl
           | true=>exact absurd (xoE hq) ai
          rw [if_neg ai];unfold MV xIk;rw [az,ar];exact h4.mono hw hs hA (MExt.refl _)
   ·
    obtain ⟨i0,rfl⟩:∃ i0,i=bx.xs.length+i0:=⟨i - bx.xs.length,by omega⟩
    have W:i0<ys.length:=by omega
    have ac:∀ {p:Prop},0<(0:Nat)->p:=fun h=>absurd h (by simp)
    refine ⟨⟨0,rowSz bx.ty,rowTy bx.ty,[],false,true⟩,?_,rfl,rfl,xbO (xb1 _),zQ _,zQ _,fun y hy=>by simp at hy,ac,ac,ac,ac⟩
    rw [xdr ak hC O rfl (by rw [V];omega)]
    simp only;rw [ap i0 W,xq1 (by rw [hsz];exact ad) (by rw [hsz];exact aj _ (xaN W)) (by rw [hsz];exact ad),if_pos rfl]
    rfl
   ·
    have ae:x.base=n:=hx;obtain ⟨rb,k1,k2⟩:=hR.box x m0 h0;cases x with
    | b k=>simp only [Id.base] at ae;subst ae;exact absurd rfl hne
    | r k i j =>
     simp only [Id.base] at ae;subst ae;obtain ⟨q2,q3,q4,q5⟩:=xfD hb hC k1;have a8:bx.frz=false:=a7;refine ⟨rb,?_,k2.mono (fun c0=>(Y _ m0 hne h0 c0).1) hw hs hA (fun c0=>?_) Q⟩
     . rw [xdr ak hC q2 rfl (by rw [V];omega)]
       simp only;rw [an i q4,q5];generalize (bx.xs.getD i .top).cells.getD j .top=z;cases z<;>simp [xIn,a8]
     . rw [k2.guard c0];exact ⟨(Y _ m0 hne h0 c0).2,hA _ (k2.lt c0)⟩
 . rcases q x m1 h1 c1 with ⟨rfl,rfl⟩|⟨a1,a2⟩<;>rcases q x' m2 h2 c2 with ⟨rfl,rfl⟩|⟨b1,b2⟩
   . rfl
   . exact absurd he.symm (am x' m2 b1 b2 c2)
   . exact absurd he (am x m1 a1 a2 c1)
   . exact hR.inj x x' m1 m2 a1 b1 c1 c2 he
def isNils:AV->Bool
 | .nils=>true
 | _=>false
def absAppC (P:Program) (H:List Box) (t tt:TypeId) (s x:AV):Option (AV×List Box) :=
 match xHW P t,s with
 | some ti,.osl (.b n) ver off len=>match ti.d with
  | .slice e=>match xHW P e,xHx H (.b n) ver with
   | some te,some bx=>match absSrc P H t tt e te.sz x with
    | some (ys,pm)=>if off=0/\len=bx.xs.length/\bx.frz=false/\bx.sz=te.sz/\isC bx.ty=true/\rty bx.ty=e/\bx.pm=true/\pm=true/\xH2 bx.ty<te.sz/\0<te.sz /\
      (len+ys.length)*te.bytes<=140737488355328/\len+ys.length<=xIL/\te.zero.okElem te.sz=true/\0<ys.length/\ys.all (fun y=>isNils (y.cells.getD (xH2 bx.ty) .top))=true then
     some (.osl (.b n) (ver+1) 0 (len+ys.length),H.set n ⟨ver+1,te.sz,bx.ty,bx.xs++ys.map (newRow bx.ty te.sz),false,true⟩) else none
    | none=>none
   | _,_=>none
  | _=>none
 | _,_=>none
set_option maxHeartbeats 1000000 in
def xyW (hR:HR w A M B H) (hB:B<=w.heap.size) {o:Oper} {ρc:Operand->Value} {c:Call} {t tt:TypeId} {os ox:Operand} {xs xx r:AV} {H':List Box} (ho:o.op=.call c) (bb:c.callee=.builtin .append)
  (bv:c.argTypes.toList=[t,tt]) (b0:c.args.toList=[os,ox]) (hs:Rel w A M (ρc os) xs) (hx:Rel w A M (ρc ox) xx) (h:absAppC P H t tt xs xx=some (r,H')) :
  Writes P o ρc w A M B r H':=by
 unfold absAppC at h;split at h
 case h_2=>simp at h
 rename_i ti n ver off len bq;split at h
 case h_2=>simp at h
 rename_i e hd;split at h
 case h_2=>simp at h
 rename_i te bx bg ai;split at h
 case h_2=>simp at h
 rename_i ys pm b4;split at h
 case isFalse=>simp at h
 rename_i b1;obtain ⟨rfl,ad,a0,hsz,hC,b2,bc,rfl,a5,ba,ay,bz,aw,bn,bi⟩:=b1;simp only [z6,zb] at h;obtain ⟨rfl,rfl⟩:=h;have hu:P.underlying t=some (.slice e):=by rw [xkc bq,hd]
 obtain ⟨i,z,ak,ca,ar,ac,az,b8,_⟩:=xba bg;have a9:=xmQ (ty:=o.type) hR bg ba hu ak hx b4;have hts':c.argTypes=#[t,tt]:=by apply Array.ext';simpa using bv
 have has':c.args=#[os,ox]:=by apply Array.ext';simpa using b0
 have aj:∀ v w',(Builtin.append_ #[t,tt] o.type #[ρc os,ρc ox]).run P w=.ok v w'->(execOp ρc o).run P w=.ok (.value v) w':=by
  intro v w' hv;simp [execOp,ho,resolve,bb,hts',has',invoke,builtin,hv,Go.resolve]
 rcases a9 with ⟨rfl,_⟩|⟨_,b3,news,ab,a6,aa⟩
 . simp at bn
 obtain ⟨m,a,hm,O,au,ag,ha⟩:=xir hR hs ai;obtain ⟨a4,be⟩:=xaK ai;rw [xbM] at a4;simp only [Nat.sub_zero,zH] at ag au;have W:m.sz=te.sz:=by rw [<-O.sz,hsz]
 have a7:m.ty=e:=by rw [<-O.ty,b2]
 have bj:m.ver=ver:=by rw [<-O.ver,be]
 have b9:len+ys.length<=4611686018427387904:=bz;have hnil':∀ y,y∈ys->y.cells.getD (xH2 bx.ty) .top=.nils:=fun y hy=>by
  have:=zI.1 bi y hy;generalize y.cells.getD (xH2 bx.ty) .top=q at this;cases q<;>first|rfl|(simp [isNils] at this)
 have hok':∀ y,y∈ys->y.okElem m.sz=true:=fun y hy=>by rw [W];exact b3 y hy
 have hH':(⟨ver+1,te.sz,bx.ty,bx.xs++ys.map (newRow bx.ty te.sz),false,true⟩:Box)=⟨bx.ver+1,bx.sz,bx.ty,bx.xs++ys.map (newRow bx.ty bx.sz),false,true⟩:=by rw [hsz,be]
 rw [hH'];have bo:Rel w A M z te.zero:=by rw [b8];exact xcZ w A M z
 obtain ⟨cb,_⟩:=bo.cells (xaU aw);have cc:=xaz aw;have an:∀ (c1:Array Value) (cap:Nat),c1.size=cap*te.sz->len+ys.length<=cap->cap<=maxLen ->
   (∀ i j,i<bx.xs.length->j<m.sz->Rel w A (MV M bx j) (c1.getD (i*m.sz+j) undef) (xIk n i j bx.ty ((bx.xs.getD i .top).cells.getD j .top))) ->
   (∀ k,k<ys.length*te.sz->c1.getD (len*te.sz+k) undef=news.getD k undef) ->
   (Builtin.append_ #[t,tt] o.type #[ρc os,ρc ox]).run P w=.ok (.slice (some ⟨w.heap.size,0,none⟩) (len+ys.length) cap) (w.drew.alloc (.cells c1 e)) ->
   Writes P o ρc w A M B (.osl (.b n) (ver+1) 0 (len+ys.length)) (H.set n ⟨bx.ver+1,bx.sz,bx.ty,bx.xs++ys.map (newRow bx.ty bx.sz),false,true⟩):=by
  intro c1 cap ah ae af bh a8 Q;have Y:Below w.heap.size w (w.drew.alloc (.cells c1 e)):=((Below.refl _ _).drew).alloc (by simp) _
  have hA:∀ b,b<w.heap.size->(APut A w.heap.size false b->A b):=fun b hb h=>by
   rcases h with h|⟨h,_⟩
   . exact h
   . omega
  have bt:(w.drew.alloc (.cells c1 e)).heap[w.heap.size]?=some (.cells c1 e (0,0)):=heap_alloc_new w.drew (.cells c1 e);obtain ⟨M',g1,g2,g3,g4⟩:=hR.grown (m':=⟨w.heap.size,ver+1,te.sz,cap,e⟩) (w':=w.drew.alloc (.cells c1 e)) (A':=APut A w.heap.size false) (c':=c1) (ys:=ys) hm a4 O a0 hC (O.nomap (xcf ai)) bc (by rw [W];exact a5)
   (fun b hb _=>Y.block b hb) Y.size hA (fun x m0 _ h0 c0=>by
    obtain ⟨cd,_,k2⟩:=hR.box x m0 h0;exact ⟨Y.block _ (k2.lt c0),.inl⟩) (by simp [bj]) W.symm a7.symm (by simp;omega) af hB (by simp) (.inr ⟨rfl,rfl⟩) bt (by simp [W,ah]) (.inr (zd _)) bh
   (fun i' j V hj=>by
    rw [W] at hj |-;rw [Nat.add_mul,Nat.add_assoc,<-ad,a8 _ (xdQ V hj)];exact a6 i' j V hj) hok' hnil' (fun b hb=>by
     rcases hb with hb|⟨rfl,_⟩
     . have:=hR.lt b hb;simp;omega
     . simp)
  exact ⟨_,_,APut A w.heap.size false,M',_,aj _ _ Q,.inl rfl,Y.mono hB,g2,fun b hb=>⟨hA b hb,.inl⟩,fun b hb _=>Y.block b hb,⟨fun b hb _=>Y.block b hb,fun x m0 h0 c0=>by
   rcases g4 x m0 h0 c0 with ⟨_,rfl⟩|⟨h1,_⟩
   . exact .inr (zd _)
   . exact .inl ⟨x,m0,h1,c0,rfl⟩⟩,g1,.osl _ (.b n) (ver+1) 0 (len+ys.length) _ g3 (zd _) rfl fun _=>⟨by simpa using ae,some ⟨w.heap.size,0,none⟩,by simp,fun _=>by simp⟩⟩
 rcases Nat.eq_zero_or_pos m.cap with J|J
 ·
  have b5:bx.xs=[]:=zA (by omega)
  have bk:len=0:=by omega
  subst bk;rw [J] at ag;have ae:=grownCap_ge w (0+ys.length) 0 e;have af:=grownCap_le_maxLen w (0+ys.length) 0 e (by unfold maxLen;omega)
  have al:(Builtin.zeroCells z.cells (grownCap w (0+ys.length) 0 e - ys.length)).size=(grownCap w (0+ys.length) 0 e - ys.length)*te.sz:=by rw [size_zeroCells];congr 1;omega
  refine an (news.toArray++Builtin.zeroCells z.cells (grownCap w (0+ys.length) 0 e - ys.length)) (grownCap w (0+ys.length) 0 e) (by rw [Array.size_append,List.size_toArray,ab,al,<-Nat.add_mul];congr 1;omega) ae af (fun i' j V _=>by rw [b5] at V;simp at V) (fun k hk=>?_) ?_
  . rw [show 0*te.sz+k=k by omega]
    simp only [zu,Array.getElem?_append,List.size_toArray,ab,hk,if_true,List.getElem?_toArray,z7]
  . rw [ag];cases a with
    | none =>
     have Q:=(aa i z ak ar ac.symm).nil (by omega) (by rw [<-az];simp at ay;omega)
     simpa using Q
    | some a =>
     have Q:=(aa i z ak ar ac.symm).grow a 0 0 [] (by simp) (by simp) (by omega) (by omega) (growslice_fits (by omega) (by rw [<-az];exact ay))
     simpa using Q
 have bw:=ha J;subst bw;simp only [Nat.zero_mul] at ag;obtain ⟨c0,h1,h2,h3⟩:=O.cells J
 replace h1:=h1.plain (O.nomap (xcf ai))
 have bf:A m.b:=(O.guard J).1 a0;have bp:len<=m.cap:=au;by_cases Z:len+ys.length<=m.cap
 ·
  have am:len*te.sz+news.length<=c0.toList.length:=by
   have bu:c0.toList.length=m.cap*te.sz:=by simp [h2,W]
   rw [ab,<-Nat.add_mul,bu];exact Nat.mul_le_mul_right _ Z
  have Q:(Builtin.append_ #[t,tt] o.type #[ρc os,ρc ox]).run P w=.ok (.slice (some ⟨m.b,0,none⟩) (len+ys.length) m.cap) (w.setRow m.b (xIO c0.toList (len*te.sz) news).toArray):=by
   have a1:len*i.size+news.length<=c0.size:=by
    rw [ab,<-ac,<-Nat.add_mul,h2,W];exact Nat.mul_le_mul_right _ Z
   have:=(aa i z ak ar ac.symm).room m.b len m.cap c0 (by rw [<-a7];exact h1) Z a1
   rw [ag,this,<-ac];rfl
  generalize a3:(xIO c0.toList (len*te.sz) news).toArray=c1 at Q;have b7:c1.size=m.cap*m.sz:=by rw [<-a3];have:=xjC am;simp at this |-;omega
  have hs':(w.setRow m.b c1).heap.size=w.heap.size:=by simp [World.setRow]
  have hw:∀ b,b<w.heap.size->¬ A b->(w.setRow m.b c1).heap[b]?=w.heap[b]?:=fun b _ hb=>setRow_other w m.b b c1 fun e=>hb (e▸bf)
  obtain ⟨M',g1,g2,g3,g4⟩:=hR.grown (m':=⟨m.b,ver+1,m.sz,m.cap,m.ty⟩) (w':=w.setRow m.b c1) (A':=A) (c':=c1) (ys:=ys) hm a4 O a0 hC (O.nomap (xcf ai)) bc (by rw [W];exact a5)
   hw (by rw [hs'];exact zd _) (fun _ _ h=>h) (fun x m0 hx h0 ao=>⟨setRow_other w m.b m0.b c1 fun e=>hx (hR.inj x (.b n) m0 m h0 hm ao J e),fun h=>h⟩) (by simp [bj]) rfl rfl (by simp;omega) O.capm (O.low J) (by rw [hs'];exact O.lt J) bf
   (setRow_heap w m.b c0 c1 m.ty (0,0) h1) b7 (.inl ⟨rfl,J⟩)
   (fun i' j V hj=>by
    rw [<-a3,xfl,xhk am,if_neg (by
     have h9:=xdQ V hj;rw [<-ad,W] at h9;rw [W];omega),xdm]
    exact h3 i' j V hj)
   (fun i' j V hj=>by
    rw [W] at hj |-;rw [Nat.add_mul,Nat.add_assoc,<-ad,<-a3,xfl,xhk am,if_pos (by have:=xdQ V hj;rw [ab];omega),show len*te.sz+(i'*te.sz+j) - len*te.sz=i'*te.sz+j by omega]
    exact a6 i' j V hj) hok' hnil' (fun b hb=>by rw [hs'];exact hR.lt b hb)
  exact ⟨_,w.setRow m.b c1,A,M',_,aj _ _ Q,.inl rfl,⟨rfl,rfl,rfl,by rw [hs'];exact zd _,fun k hk=>setRow_other w m.b k c1 fun e=>by have:=O.low J;omega⟩,g2,fun _ _=>Iff.rfl,hw,⟨fun b _ hb=>setRow_other w m.b b c1 fun e=>hb (.b n) m hm J e.symm,fun x m0 h0 ao=>by
   rcases g4 x m0 h0 ao with ⟨_,rfl⟩|⟨b6,_⟩
   . exact .inl ⟨.b n,m,hm,J,rfl⟩
   . exact .inl ⟨x,m0,b6,ao,rfl⟩⟩,g1,.osl _ (.b n) (ver+1) 0 (len+ys.length) _ g3 (zd _) rfl fun _=>⟨by simpa using Z,some ⟨m.b,0,none⟩,by simp,fun _=>by simp⟩⟩
 . have a2:∀ j u,(c0.toList.take (len*te.sz))[j]?=some u->w.cell? ((⟨m.b,0,none⟩:Addr).add j)=some u:=by
    intro j u aq;rw [List.getElem?_take] at aq;split at aq
    . rw [xfj,zH];simp [World.cell?,h1];simpa using aq
    . simp at aq
   have ap:(c0.toList.take (len*te.sz)).length=len*te.sz:=by
    simp only [zt,Array.length_toList,h2,W];have:len*te.sz<=m.cap*te.sz:=Nat.mul_le_mul_right _ bp;omega
   have Q:=(aa i z ak ar ac.symm).grow ⟨m.b,0,none⟩ len m.cap (c0.toList.take (len*te.sz)) (by rw [ap,ac]) a2 (by omega) (by omega) (growslice_fits (by omega) (by rw [<-az];exact ay))
   have ae:=grownCap_ge w (len+ys.length) m.cap e;have af:=grownCap_le_maxLen w (len+ys.length) m.cap e (by unfold maxLen;omega)
   generalize hcap:grownCap w (len+ys.length) m.cap e=cap at Q ae af;have al:(Builtin.zeroCells z.cells (cap - (len+ys.length))).size=(cap - (len+ys.length))*te.sz:=by rw [size_zeroCells];congr 1;omega
   generalize ax:(c0.toList.take (len*te.sz)).toArray++news.toArray++Builtin.zeroCells z.cells (cap - (len+ys.length))=c1 at Q;have ah:c1.size=cap*te.sz:=by
    rw [<-ax];simp only [Array.size_append,List.size_toArray,ap,ab,al,<-Nat.add_mul];congr 1;omega
   refine an c1 cap ah ae af (fun i' j V hj=>?_) (fun k hk=>?_) (by rw [ag];exact Q)
   . have hk:=xdQ V hj;rw [<-ad,W] at hk;have e1:c1.getD (i'*m.sz+j) undef=c0.getD (i'*m.sz+j) undef:=by
      rw [<-xdm,<-xdm,<-ax,W];simp only [Array.toList_append,zw,z7,zP,ap,hk,if_true,List.getElem?_take]
     rw [e1];exact h3 i' j V hj
   . rw [<-xdm,<-ax];simp only [Array.toList_append,zw,z7,zP,ap,show ¬ len*te.sz+k<len*te.sz by omega,if_false,ab,show len*te.sz+k - len*te.sz=k by omega,hk,if_true]
def mkd (H:List Box):AV->Bool
 | .own (.b n) _ _ _=>match H[n]? with
  | some bx=>isC bx.ty
  | none=>false
 | .osl (.b n) _ _ _=>match H[n]? with
  | some bx=>isC bx.ty
  | none=>false
 | _=>false
def isRowRef:AV->Bool
 | .osl (.r _ _ _) _ _ _=>true
 | _=>false
def absTake (P:Program) (H:List Box) (t tt:TypeId) (s x:AV):Option (AV×List Box) :=
 match s with
 | .osl (.r n i j) ver off len=>match H[n]? with
  | some bx=>match (bx.xs.getD i .top).cells.getD j .top with
   | .list sz ys=>if xHY bx.ty j=true/\bx.pm=true/\j<bx.sz/\i<bx.xs.length/\(bx.xs.getD i .top).cells.length=bx.sz/\ver=2*ys.length/\off=0/\len=ys.length then
    xIx P (H.set n (xH4 bx bx.ver i j (.int .i64 ys.length))++[⟨0,sz,rowTy bx.ty,ys,bx.frz,true⟩]) t tt (.osl (.b H.length) 0 0 len) x else none
   | _=>none
  | none=>none
 | _=>none
def Writes.pre {o:Oper} {ρc:Operand->Value} {x:AV} {H':List Box} {M1:Id->Option MB} (hm:Mv w A M w A M1) (h:Writes P o ρc w A M1 B x H'):Writes P o ρc w A M B x H':=by
 obtain ⟨n,w',A',M',v,h1,h2,h3,h4,h5,h6,h7,h8,h9⟩:=h;refine ⟨n,w',A',M',v,h1,h2,h3,hm.ext.trans h4,h5,h6,⟨fun b hb J=>h7.1 b hb fun id m q h0 e=>?_,fun id m' q h0=>?_⟩,h8,h9⟩
 . rcases hm.touch.2 id m q h0 with ⟨i,m1,g1,g2,g3⟩|g1
   . exact J i m1 g1 g2 (by rw [<-g3,e])
   . omega
 . rcases h7.2 id m' q h0 with ⟨i,m1,g1,g2,g3⟩|g1
   . rcases hm.touch.2 i m1 g1 g2 with ⟨i2,m2,k1,k2,k3⟩|k1
     . exact .inl ⟨i2,m2,k1,k2,by rw [g3,k3]⟩
     . exact .inr (by rw [g3];exact k1)
   . exact .inr g1
def xzQ (hR:HR w A M B H) (hB:B<=w.heap.size) {o:Oper} {ρc:Operand->Value} {c:Call} {t tt:TypeId} {os ox:Operand} {xs xx r:AV} {H':List Box} (ho:o.op=.call c) (J:c.callee=.builtin .append)
  (O:c.argTypes.toList=[t,tt]) (V:c.args.toList=[os,ox]) (hs:Rel w A M (ρc os) xs) (hx:Rel w A M (ρc ox) xx) (h:absTake P H t tt xs xx=some (r,H')) :
  Writes P o ρc w A M B r H':=by
 unfold absTake at h;split at h
 case h_2=>simp at h
 rename_i n i j ver off len;split at h
 case h_2=>simp at h
 rename_i bx hb;split at h
 case h_2=>simp at h
 rename_i sz ys q;split at h
 case isFalse=>simp at h
 rename_i W;obtain ⟨Q,Z,hj,hi,Y,rfl,rfl,rfl⟩:=W;obtain ⟨m,hm,_⟩:=Rel.osl_inv hs;obtain ⟨d1,d2,d3⟩:=hR.detach hb Q q hj Y hm;exact Writes.pre d2 (xpT d1 hB ho J O V (d3 _ hs) (hx.mono (fun _ _ _=>rfl) (zd _) (fun _ _ h=>h) d2.ext) h)
def xDS {t:TypeId} (q:xHZ t=false):isC (rty t)=false:=by
 unfold rty;split
 . rw [q];show isC (t % 1048576)=false;have h:t % 1048576<1048576:=Nat.mod_lt _ (by omega)
   unfold isC;cases hb:Nat.ble 1048576 (t % 1048576) with
   | false=>rfl
   | true=>have:=Nat.le_of_ble_eq_true hb;exact absurd h (Nat.not_lt.2 this)
 . assumption
def HR.unmark (hR:HR w A M B H) {n:Nat} {bx:Box} (hb:H[n]?=some bx) (hC:isC bx.ty=true) (ae:xHZ bx.ty=false) (ah:rowsOk bx bx.xs=true) :
  ∃ A' M',HR w A' M' B (H.set n ⟨bx.ver,bx.sz,rty bx.ty,bx.xs,bx.frz,true⟩)/\Mv w A M w A' M'/\∀ b,b<B->A b->A' b:=by
 have hn:n<H.length:=xcS hb;let A':Nat->Prop:=fun b=>A b/\¬ ∃ i j m0,M (.r n i j)=some m0/\0<m0.cap/\m0.b=b
 let M':Id->Option MB:=fun x=>match x with
  | .b _=>M x
  | .r k i j=>if k=n then (M x).map fun _=>⟨0,tombB.ver,0,0,0⟩ else M x
 have aj:∀ k,M' (.b k)=M (.b k):=fun k=>rfl
 have O:∀ i j m0,M (.r n i j)=some m0->M' (.r n i j)=some ⟨0,tombB.ver,0,0,0⟩:=fun i j m0 h=>by simp [M',h]
 have aa:∀ i j,M (.r n i j)=none->M' (.r n i j)=none:=fun i j h=>by simp [M',h]
 have V:∀ x:Id,x.base≠n->M' x=M x:=fun x hx=>by
  cases x with
  | b k=>rfl
  | r k i j=>simp only [Id.base] at hx;simp [M',hx]
 have q:=ah;unfold rowsOk at q;rw [hC] at q;simp only [xIr,zf,zI] at q;obtain ⟨af,q⟩:=q;have ac:∀ i j m0,M (.r n i j)=some m0->xHY bx.ty j=true/\i<bx.xs.length/\m0.ver<tombB.ver:=fun i j m0 h=>by
  obtain ⟨rb,k1,k2⟩:=hR.box _ m0 h;obtain ⟨e1,e2,e3,e4⟩:=xfD hb hC k1;obtain ⟨ys,hy⟩:=xfM (q _ (xaN e3));rw [xoE e1,hy] at e4;subst e4;have h1:2*ys.length=m0.ver:=k2.ver;have h2:ys.length<=m0.cap:=k2.fits;have h3:=k2.capm;unfold maxLen at h3;refine ⟨e1,e3,?_⟩;show m0.ver<1208925819614629174706176;omega
 have Z:MExt M M':=fun x m0 h=>by
  by_cases hx:x.base=n
  . cases x with
    | b k=>exact ⟨m0,h,.inl rfl⟩
    | r k i j =>
     simp only [Id.base] at hx;subst hx;exact ⟨_,O i j m0 h,.inr (ac i j m0 h).2.2⟩
  . exact ⟨m0,by rw [V x hx];exact h,.inl rfl⟩
 have Q:∀ x m',M' x=some m'->0<m'.cap->M x=some m'/\∀ i j,x≠.r n i j:=fun x m' h h0=>by
  by_cases hx:x.base=n
  . cases x with
    | b k=>exact ⟨h,fun i j e=>by cases e⟩
    | r k i j =>
     simp only [Id.base] at hx;subst hx;cases hm:M (.r k i j) with
     | none=>rw [aa i j hm] at h;cases h
     | some m0 =>
      rw [O i j m0 hm] at h;cases h;exact absurd h0 (by simp)
  . rw [V x hx] at h;exact ⟨h,fun i j e=>hx (by rw [e];rfl)⟩
 have hA:∀ b,b<w.heap.size->A' b->A b:=fun b _ h=>h.1
 have J:∀ (x:Id) m0,(∀ i j,x≠.r n i j)->M x=some m0->0<m0.cap->A m0.b->A' m0.b:=fun x m0 hx h h0 ag=>by
  refine ⟨ag,?_⟩;rintro ⟨i,j,m1,e1,e2,e3⟩;exact hx i j (hR.inj x (.r n i j) m0 m1 h e1 h0 e2 e3.symm)
 have ad:(H.set n ⟨bx.ver,bx.sz,rty bx.ty,bx.xs,bx.frz,true⟩)[n]?=some ⟨bx.ver,bx.sz,rty bx.ty,bx.xs,bx.frz,true⟩:=zL hn;have W:isC (rty bx.ty)=false:=xDS ae;refine ⟨A',M',hR.rebuild (fun k=>k=n) (fun k hk _=>zX (fun e=>hk e.symm)) (fun x hx=>V x hx) (fun x m0 hx h0 c0=>⟨rfl,J x m0 (fun i j e=>hx (by rw [e];rfl)) h0 c0⟩) (fun _ _ _=>rfl) (zd _) hA Z (fun x m' hx h=>?_) (fun x m1 x' m2 _ h1 h2 c1 c2 he=>?_) (fun b hb=>hR.lt b hb.1),
  ⟨zd _,fun _ _ _=>rfl,hA,fun b _ h ai=>⟨h,?_⟩,Z,⟨fun _ _ _=>rfl,fun x m' h h0=>.inl ⟨x,m',(Q x m' h h0).1,h0,rfl⟩⟩⟩,fun b ak h=>⟨h,?_⟩⟩
 . cases x with
   | b k =>
    have hx:k=n:=hx;subst hx;have h:M (.b k)=some m':=h;obtain ⟨bx',k1,k2⟩:=hR.box _ m' h;rw [xbM,hb] at k1;cases k1;refine ⟨_,ad,k2.ver,k2.sz,by rw [xbO W];exact k2.ty,k2.capm,k2.fits,k2.ok,k2.low,k2.lt,fun h0=>?_,fun h0=>?_⟩
    . obtain ⟨c,c1,c2,c3⟩:=k2.cells h0;refine ⟨c,c1,c2,fun i j hi hj=>?_⟩
      have h4:=c3 i j hi hj;rw [xaw W,xbf (bx:=⟨bx.ver,bx.sz,rty bx.ty,bx.xs,bx.frz,true⟩) W];show Rel w A' xH9 _ _;cases ab:xHY bx.ty j with
      | true =>
       obtain ⟨ys,hy⟩:=xfM (q _ (xaN hi));rw [<-xoE ab] at hy;unfold xIk MV at h4;simp only [ab] at h4;rw [hy] at h4 |-;exact xvU hR hA hb hC hy h4 fun m0 e1 e2 e3=>e3.2 ⟨i,j,m0,e1,e2,rfl⟩
      | false =>
       unfold xIk MV at h4;simp only [ab,af] at h4;exact h4.mono (fun _ _ _=>rfl) (zd _) hA (MExt.refl _)
    . rw [k2.guard h0];exact ⟨J (.b k) m' (fun i j e=>by cases e) h h0,fun h=>h.1⟩
   | r k i j =>
    have hx:k=n:=hx;subst hx;cases hm:M (.r k i j) with
    | none=>rw [aa i j hm] at h;cases h
    | some m0 =>
     rw [O i j m0 hm] at h;cases h;have Y:∀ {p:Prop},0<(0:Nat)->p:=fun h=>absurd h (by simp)
     exact ⟨tombB,xec ad W,rfl,rfl,rfl,zQ _,zQ _,fun y hy=>by simp [tombB] at hy,Y,Y,Y,Y⟩
 . exact hR.inj x x' m1 m2 (Q x m1 h1 c1).1 (Q x' m2 h2 c2).1 c1 c2 he
 . rintro ⟨i,j,m1,e1,e2,e3⟩;exact ai _ m1 e1 e2 e3
 . rintro ⟨i,j,m1,e1,e2,e3⟩;obtain ⟨rb,_,k2⟩:=hR.box _ m1 e1;have:=k2.low e2;omega
end
section
open Go.Maps Go.MapKept
def isKey (s:List UInt8) (x:AV):Bool:=match x with
 | .str k=>k==s
 | _=>false
def mapIx:List AV->List UInt8->Option Nat
 | [],_=>none
 | e::es,s=>match isKey s (e.cells.getD 0 .top) with
  | true=>some 0
  | false=>(mapIx es s).map (·+1)
def xIq (xs:List AV) (s:List UInt8):Bool:=(mapIx xs s).isSome
def xIe (z:AV) (xs:List AV) (s:List UInt8):AV:=match mapIx xs s with
 | some i=>(xs.getD i .top).cells.getD 1 .top
 | none=>z
def xIc (xs:List AV) (s:List UInt8) (v:AV):List AV:=match mapIx xs s with
 | some i=>xs.set i (.agg [.str s,v])
 | none=>xs++[.agg [.str s,v]]
def mapTy (t:TypeId):TypeId:=1208925819614629241815040+4294967296*t
def xoZ:∀ {xs:List AV} {s:List UInt8},(∀ i,i<xs.length->isKey s ((xs.getD i .top).cells.getD 0 .top)=false)->mapIx xs s=none
 | [],_,_=>rfl
 | e::es,s,h=>by
  have h0:=h 0 (by simp)
  simp only [List.getD_cons_zero] at h0;simp only [mapIx,h0];rw [xoZ fun i hi=>by simpa using h (i+1) (by simpa using hi)]
  rfl
def xmD:∀ {xs:List AV} {s:List UInt8} {j:Nat},j<xs.length->isKey s ((xs.getD j .top).cells.getD 0 .top)=true->(∀ i,i<j->isKey s ((xs.getD i .top).cells.getD 0 .top)=false)->mapIx xs s=some j
 | [],_,_,h,_,_=>by simp at h
 | e::es,s,0,_,h1,_=>by simp only [List.getD_cons_zero] at h1;simp only [mapIx,h1]
 | e::es,s,j+1,h,h1,h2=>by
  have h0:=h2 0 (by omega)
  simp only [List.getD_cons_zero] at h0;simp only [mapIx,h0];rw [xmD (j:=j) (by simpa using h) (by simpa using h1) fun i hi=>by simpa using h2 (i+1) (by omega)]
  rfl
def xnB {s t:ByteArray} (h:s.data.toList=t.data.toList):s=t:=by
 cases s;cases t;simp only at h;congr 1;exact Array.ext' h
structure MapAt (w:World) (A:Nat->Prop) (M:Id->Option MB) (m:MB) (xs:List AV) (es:Array MapEntry) (clock:Nat):Prop where
 heap:MapB w m.b es clock
 size:es.size=xs.length
 keys:∀ (k:Nat) (x:MapEntry),es[k]?=some x->∃ t:ByteArray,x.key=.string t/\(xs.getD k .top).cells.getD 0 .top=.str t.data.toList/\t.size<=maxLen
 vals:∀ (k:Nat) (x:MapEntry),es[k]?=some x->Rel w A M x.val ((xs.getD k .top).cells.getD 1 .top)
 apart:∀ (k l:Nat) (x y:MapEntry),es[k]?=some x->es[l]?=some y->x.key=y.key->k=l
def MapAt.miss {w:World} {A:Nat->Prop} {M:Id->Option MB} {m:MB} {xs:List AV} {es:Array MapEntry} {clock:Nat} (h:MapAt w A M m xs es clock) {t:ByteArray} (q:∀ x∈es.toList,x.key≠.string t):mapIx xs t.data.toList=none :=
 xoZ fun i hi=>by
  have hi':i<es.size:=by rw [h.size];exact hi
  obtain ⟨t',h1,h2,_⟩:=h.keys i es[i] (by simp [hi'])
  rw [h2];show (t'.data.toList==t.data.toList)=false;rw [beq_eq_false_iff_ne];intro e;exact q es[i] (by simp) (by rw [h1,xnB e])
def MapAt.hit {w:World} {A:Nat->Prop} {M:Id->Option MB} {m:MB} {xs:List AV} {es:Array MapEntry} {clock:Nat} (h:MapAt w A M m xs es clock) {t:ByteArray} {j:Nat} {e0:MapEntry} (hj:es.toList[j]?=some e0) (hk:e0.key=.string t):mapIx xs t.data.toList=some j/\j<xs.length:=by
 have q:es[j]?=some e0:=by simpa using hj
 have hj':j<es.size:=by
  rcases zJ j es.size with h|h
  . exact h
  . simp [Array.getElem?_eq_none h] at q
 have J:j<xs.length:=by rw [<-h.size];exact hj'
 refine ⟨xmD J ?_ fun i hi=>?_,J⟩
 . obtain ⟨t',h1,h2,_⟩:=h.keys j e0 q;rw [h2];rw [hk] at h1;injection h1 with h1;rw [h1];show (t'.data.toList==t'.data.toList)=true;exact beq_self_eq_true _
 . have hi':i<es.size:=by omega
   obtain ⟨t',h1,h2,_⟩:=h.keys i es[i] (by simp [hi'])
   rw [h2];show (t'.data.toList==t.data.toList)=false;rw [beq_eq_false_iff_ne];intro e;have:=h.apart i j es[i] e0 (by simp [hi']) q (by rw [h1,hk,xnB e])
   omega
def xtZ {xs:List AV} {sz k j:Nat} (q:∀ x,x∈xs->x.okElem sz=true) (hk:k<xs.length) (hj:j<sz):((xs.getD k .top).cells.getD j .top).one=true:=by
 have h:=q _ (xaN hk);have h1:=xaU h;have h2:=xaz h;rw [zI] at h1;exact h1 _ (xaN (by omega))
def xsw {w:World} {A:Nat->Prop} {M:Id->Option MB} {t:ByteArray} {x:AV} (h:Rel w A M (.string t) x) (hx:x.one=true) (J:∀ id ver i j,x≠.own id ver i j) (q:∀ id ver i j,x≠.osl id ver i j):x=.str t.data.toList:=by
 generalize hv:Value.string t=v at h;cases h<;>first|(cases hv;rfl)|(cases hv;done)|(simp [AV.one] at hx;done)|(exact absurd rfl (J _ _ _ _))|(exact absurd rfl (q _ _ _ _))
def BoxAt.mapAt {w:World} {A:Nat->Prop} {M:Id->Option MB} {B:Nat} {id:Id} {m:MB} {bx:Box} (h:BoxAt w A M B id m bx) (hm:xHZ bx.ty=true) (h0:xHY bx.ty 0=false) (h1:xHY bx.ty 1=false) (hs:bx.sz=2) (hp:bx.pm=true) (hcap:0<m.cap) :
  ∃ es clock,MapAt w A xH9 m bx.xs es clock/\m.cap=maxLen:=by
 obtain ⟨c,c1,c2,c3⟩:=h.cells hcap;have O:xHZ m.ty=true:=by
  rw [<-h.ty];unfold rty;split
  . rw [hm];exact hm
  . exact hm
 unfold HoldsC at c1;rw [O] at c1;obtain ⟨es,clock,d1,d2,d3,d4,d5,d6⟩:=c1;have hsz:m.sz=2:=by rw [<-h.sz];exact hs
 have J:∀ (k:Nat) (x:MapEntry),es[k]?=some x->k<bx.xs.length:=fun k x hx=>by
  rw [<-d2];rcases zJ k es.size with h|h
  . exact h
  . simp [Array.getElem?_eq_none h] at hx
 have q:∀ (k j:Nat),k<bx.xs.length->j<2->xHY bx.ty j=false->Rel w A xH9 (c.getD (k*m.sz+j) undef) ((bx.xs.getD k .top).cells.getD j .top):=fun k j hk hj Q=>by
  have h4:=c3 k j hk (by rw [hsz];exact hj)
  unfold MV xIk at h4;simp only [Q,hp] at h4;exact h4
 refine ⟨es,clock,⟨d1,d2,fun k x hx=>?_,fun k x hx=>?_,d6⟩,d3⟩
 . obtain ⟨t,ht,V⟩:=d5 k x hx;have hk:=J k x hx;have h4:=q k 0 hk (by omega) h0
   rw [Nat.add_zero,(d4 k x hx).1,ht] at h4;exact ⟨t,ht,xsw h4 (xtZ h.ok hk (by rw [hsz];omega)) (fun id ver i j e=>by rw [e] at h4;obtain ⟨_,hh,_⟩:=Rel.own_inv h4;cases hh) (fun id ver i j e=>by rw [e] at h4;obtain ⟨_,hh,_⟩:=Rel.osl_inv h4;cases hh),V⟩
 . have h4:=q k 1 (J k x hx) (by omega) h1
   rw [(d4 k x hx).2] at h4;exact h4
def getMap (H:List Box) (n:Nat) (ver:Nat):Option Box:=match H[n]? with
 | some bx=>if bx.ver=ver/\xHZ bx.ty=true/\xHY bx.ty 0=false/\xHY bx.ty 1=false/\bx.sz=2/\bx.pm=true then some bx else none
 | none=>none
def mapNum (P:Program) (t e:TypeId):Option TypeId:=match P.underlying e with
 | some (.slice e2)=>match xHW P e2 with
  | some te=>match Nat.beq te.sz 200 with
   | true=>some (mapTy t)
   | false=>some (1208925819614629174706176+4503599627370496*t+1048576*(2+64*(te.sz+64*e2)))
  | none=>none
 | _=>some (mapTy t)
def absMakeM (P:Program) (H:List Box) (t:TypeId):Option (AV×List Box):=match P.underlying t with
 | some (.map k e)=>match P.underlying k,mapNum P t e with
  | some .string,some ty=>if xHZ ty=true/\isC ty=true then some (.own H.length 0 0 0,H++[⟨0,2,ty,[],false,true⟩]) else none
  | _,_=>none
 | _=>none
def absLookM (P:Program) (H:List Box) (t:TypeId) (m k:AV) (c:Bool):Option AV:=match m,k,P.underlying t with
 | .own (.b n) ver _ _,.str s,some (.map kt et)=>match P.underlying kt,xHW P et,getMap H n ver with
  | some .string,some te,some bx=>if s.length<=xIL then some (match c with
   | true=>.tuple [xIe te.zero bx.xs s,.bool (xIq bx.xs s)]
   | false=>xIe te.zero bx.xs s) else none
  | _,_,_=>none
 | _,_,_=>none
def lookL (xs:List AV) (s:List UInt8):List AV:=match mapIx xs s with
 | some i=>((xs.getD i .top).cells.getD 1 .top).toList
 | none=>[]
def absLookL (P:Program) (H:List Box) (t:TypeId) (m k:AV) (c:Bool):Option AV:=match m,k,P.underlying t with
 | .own (.b n) ver _ _,.str s,some (.map kt et)=>match P.underlying kt,P.underlying et,xHW P et,getMap H n ver with
  | some .string,some (.slice e2),some te,some bx=>match te.zero,xHW P e2 with
   | .nils,some te2=>if s.length<=xIL/\(!xIq bx.xs s || xIC te2.sz (xIe .nils bx.xs s))=true then some (match c with
    | true=>.tuple [.list te2.sz (lookL bx.xs s),.bool (xIq bx.xs s)]
    | false=>.list te2.sz (lookL bx.xs s)) else none
   | _,_=>none
  | _,_,_,_=>none
 | _,_,_=>none
def xpr {P:Program} {H:List Box} {t:TypeId} {m k r:AV} {c:Bool} (h:absLookL P H t m k c=some r):∃ n ver i j bx,m=.own (.b n) ver i j/\getMap H n ver=some bx:=by
 unfold absLookL at h;split at h
 case h_2=>simp at h
 rename_i n ver i j s kt et O;split at h
 case h_2=>simp at h
 rename_i e2 te bx J V Q q;exact ⟨n,ver,i,j,bx,rfl,q⟩
def absPutM (P:Program) (H:List Box) (t:TypeId) (m k v:AV):Option (List Box):=match m,k,P.underlying t with
 | .own (.b n) ver _ _,.str s,some (.map kt _)=>match P.underlying kt,getMap H n ver with
  | some .string,some bx=>if bx.frz=false/\v.one=true/\v.pure=true/\bx.xs.length<xIL/\s.length<=xIL then some (H.set n ⟨ver,2,bx.ty,xIc bx.xs s v,false,true⟩) else none
  | _,_=>none
 | _,_,_=>none
section
variable {P : Program} {w : World} {A : Nat -> Prop} {M : Id -> Option MB} {B : Nat} {H : List Box}
def xjn {n ver:Nat} {bx:Box} (h:getMap H n ver=some bx):H[n]?=some bx/\bx.ver=ver/\xHZ bx.ty=true/\xHY bx.ty 0=false/\xHY bx.ty 1=false/\bx.sz=2/\bx.pm=true:=by
 unfold getMap at h;split at h
 . split at h
   . rename_i hb hc;cases h;exact ⟨hb,hc⟩
   . simp at h
 . simp at h
def xyt (hR:HR w A M B H) {v:Value} {n ver i j:Nat} {bx:Box} (h:Rel w A M v (.own (.b n) ver i j)) (hb:getMap H n ver=some bx) :
  ∃ m,M (.b n)=some m/\BoxAt w A M B (.b n) m bx/\v=.map (some m.b)/\0<m.cap:=by
 obtain ⟨O,Q,q,_⟩:=xjn hb;obtain ⟨m,hm,hv,h1,he⟩:=Rel.own_inv h;obtain ⟨bx',h2,h3⟩:=hR.box _ m hm;rw [xbM,O] at h2;cases h2;refine ⟨m,hm,h3,?_⟩;have J:xHZ m.ty=true:=by
  rw [<-h3.ty];unfold rty;split
  . rw [q];exact q
  . exact q
 have h0:=he (by rw [<-Q,h3.ver])
 unfold ptrOf at h0;rw [J] at h0;cases hc:m.cap with
 | zero =>
  rw [hc] at h0;simp only at h0;rw [h0] at h1;cases h1
 | succ k =>
  rw [hc] at h0;exact ⟨h0,Nat.succ_pos k⟩
end
def xrp {s:List UInt8} {v:AV} (h:v.one=true):(AV.agg [.str s,v]).okElem 2=true:=by
 show (true&&(true&&(v.one&&true)))=true;rw [h];rfl
def xfN {P:Program} {k:TypeId} (hk:P.underlying k=some .string) {t:ByteArray} (ht:t.size<=maxLen):keyOf P k (.string t)=some (.string t.data.toList):=by
 simp [keyOf,hk,mapKey,ht]
def xiF {t:ByteArray} (h:t.data.toList.length<=xIL):t.size<=maxLen:=by
 rw [xj4];unfold xIL at h;unfold maxLen;omega
section
variable {P : Program} {w : World} {A : Nat -> Prop} {M : Id -> Option MB} {B : Nat} {H : List Box}
def xvB (hR:HR w A M B H) {ρc:Operand->Value} {t:TypeId} {om ok:Operand} {c:Bool} {xm xk r:AV} (hm:Rel w A M (ρc om) xm) (hk:Rel w A M (ρc ok) xk) (h:absLookM P H t xm xk c=some r) :
  ∃ v,(Instr.lookup t (ρc om) (ρc ok) c).run P w=.ok v w/\Rel w A M v r:=by
 unfold absLookM at h;split at h
 case h_2=>simp at h
 rename_i n ver i j s kt et ah;split at h
 case h_2=>simp at h
 rename_i te bx O ai V;split at h
 case isFalse=>simp at h
 rename_i ae;simp only [z6] at h;obtain ⟨m,aq,am,ad,aj⟩:=xyt hR hm V;obtain ⟨an,ap,ab,al,af,ag,Z⟩:=xjn V;obtain ⟨es,clock,q,_⟩:=am.mapAt ab al af ag Z aj;obtain ⟨t0,ac,aa⟩:=hk.str_inv;subst aa;have Q:∀ x∈es.toList,∃ l,keyOf P kt x.key=some l:=fun x hx=>by
  obtain ⟨k,W,rfl⟩:=zp.1 hx;simp only [Array.length_toList] at W;obtain ⟨t',h1,_,h3⟩:=q.keys k es[k] (by simp [W])
  exact ⟨.string t'.data.toList,by simp only [Array.getElem_toList];rw [h1];exact xfN O h3⟩
 obtain ⟨z,hz,ak⟩:=xrK ai w;have Y:Rel w A M z te.zero:=by rw [ak];exact xcZ w A M z
 rw [ad,ac,<-h];rcases xvC c (Maps.string_keyed O) ah hz q.heap Q (kl:=.string t0.data.toList) (xfN O (xiF ae)) with ⟨h1,h2⟩|⟨j0,e0,h1,h2,h3⟩
 . have J:=q.miss h2;refine ⟨_,h1,?_⟩;cases c
   . simpa [xIe,J] using Y
   . simp only [xIe,xIq,J,if_true,Option.isSome];exact .tuple #[z,.bool false] _ rfl fun i hi=>by
      rcases i with _|_|i
      . exact Y
      . exact .bool false
      . simp at hi;omega
 . obtain ⟨J,ao⟩:=q.hit h1 h2;have hv:=(q.vals j0 e0 (by simpa using h1)).lift M
   refine ⟨_,h3,?_⟩;cases c
   . simpa [xIe,J] using hv
   . simp only [xIe,xIq,J,if_true,Option.isSome];exact .tuple #[e0.val,.bool true] _ rfl fun i hi=>by
      rcases i with _|_|i
      . exact hv
      . exact .bool true
      . simp at hi;omega
def xzk (hR:HR w A M B H) {o:Oper} {ρc:Operand->Value} {t:TypeId} {om ok:Operand} {c:Bool} {xm xk r:AV} (ho:o.op=.lookup t om ok c) (hm:Rel w A M (ρc om) xm) (hk:Rel w A M (ρc ok) xk) (h:absLookM P H t xm xk c=some r) :
  Writes P o ρc w A M B r H:=by
 obtain ⟨v,h1,h2⟩:=xvB hR hm hk h;exact ⟨.value v,w,A,M,v,by simp only [execOp,ho,Sem.run_bind,h1,Result.andThen_ok,Sem.run_pure],.inl rfl,Below.refl _ _,MExt.refl M,fun _ _=>Iff.rfl,fun _ _ _=>rfl,⟨fun _ _ _=>rfl,fun id m' h h0=>.inl ⟨id,m',h,h0,rfl⟩⟩,hR,h2⟩
def xtS (hR:HR w A M B H) {ρc:Operand->Value} {t:TypeId} {om ok:Operand} {c:Bool} {xm xk r:AV} (hm:Rel w A M (ρc om) xm) (hk:Rel w A M (ρc ok) xk) (h:absLookL P H t xm xk c=some r) :
  ∃ v,(Instr.lookup t (ρc om) (ρc ok) c).run P w=.ok v w/\Rel w A M v r:=by
 unfold absLookL at h;split at h
 case h_2=>simp at h
 rename_i n ver i j s kt et W;split at h
 case h_2=>simp at h
 rename_i e2 te bx Q aa Y O;split at h
 case h_2=>simp at h
 rename_i J hz Z;split at h
 case isFalse=>simp at h
 rename_i hc;obtain ⟨V,q⟩:=hc;simp only [z6] at h;have hx:∀ v,Rel w A M v (xIe .nils bx.xs s)->Rel w A M v (.list J.sz (lookL bx.xs s)):=fun v hv=>by
  unfold xIq xIe at q;unfold xIe at hv;unfold lookL;cases hi:mapIx bx.xs s with
  | none =>
   rw [hi] at hv;simp only at hv |-;generalize hn:AV.nils=x at hv;cases hv<;>first|(cases hn;done)|skip
   . exact .list0 none 0 J.sz
  | some i =>
   rw [hi] at hv q;simp only [zk,Bool.not_true,Bool.false_or] at hv q |-;obtain ⟨ys,hy⟩:=xfM q;rw [hy] at hv |-;exact hv
 have hM:∀ c,absLookM P H t (.own (.b n) ver i j) (.str s) c=some (match c with
   | true=>.tuple [xIe te.zero bx.xs s,.bool (xIq bx.xs s)]
   | false=>xIe te.zero bx.xs s):=fun c=>by
  unfold absLookM;simp only [W,Q,Y,O];exact if_pos V
 obtain ⟨v,h1,h2⟩:=xvB hR hm hk (hM c);refine ⟨v,h1,?_⟩;rw [<-h];rw [hz] at h2;cases c with
 | false=>exact hx v h2
 | true =>
  simp only at h2 |-;obtain ⟨vs,rfl,hl,hr⟩:=h2.tuple_inv;refine .tuple vs _ (by simpa using hl) fun i hi=>?_
  rcases i with _|_|i
  . exact hx _ (hr 0 (by simp))
  . exact hr 1 (by simp)
  . simp at hi;omega
def xwy (hR:HR w A M B H) {o:Oper} {ρc:Operand->Value} {t:TypeId} {om ok:Operand} {c:Bool} {xm xk r:AV} (ho:o.op=.lookup t om ok c) (hm:Rel w A M (ρc om) xm) (hk:Rel w A M (ρc ok) xk) (h:absLookL P H t xm xk c=some r) :
  Writes P o ρc w A M B r H:=by
 obtain ⟨v,h1,h2⟩:=xtS hR hm hk h;exact ⟨.value v,w,A,M,v,by simp only [execOp,ho,Sem.run_bind,h1,Result.andThen_ok,Sem.run_pure],.inl rfl,Below.refl _ _,MExt.refl M,fun _ _=>Iff.rfl,fun _ _ _=>rfl,⟨fun _ _ _=>rfl,fun id m' h h0=>.inl ⟨id,m',h,h0,rfl⟩⟩,hR,h2⟩
def xtd {xs:List AV} {s:List UInt8} {v:AV}:xs.length<=(xIc xs s v).length/\(xIc xs s v).length<=xs.length+1:=by
 unfold xIc;split<;>simp
def xzr (hR:HR w A M B H) {o:Oper} {ρc:Operand->Value} {t:TypeId} {om ok ov:Operand} {xm xk xv:AV} {H':List Box} (ho:o.op=.mapUpdate t om ok ov\/o.op=.insert t om ok ov) (hm:Rel w A M (ρc om) xm) (hk:Rel w A M (ρc ok) xk) (hv:Rel w A M (ρc ov) xv) (h:absPutM P H t xm xk xv=some H') :
  Writes P o ρc w A M B (.tuple []) H':=by
 unfold absPutM at h;split at h
 case h_2=>simp at h
 rename_i n ver i j s kt et bn;split at h
 case h_2=>simp at h
 rename_i bx an aw;split at h
 case isFalse=>simp at h
 rename_i bf;obtain ⟨a4,ai,ao,af,ae⟩:=bf;cases h;obtain ⟨m,ah,O,bc,ab⟩:=xyt hR hm aw;obtain ⟨a6,be,ac,aq,ar,a8,bi⟩:=xjn aw;obtain ⟨es,clock,W,hcap⟩:=O.mapAt ac aq ar a8 bi ab;obtain ⟨t0,bk,bb⟩:=hk.str_inv;subst bb;have am:∀ x∈es.toList,∃ l,keyOf P kt x.key=some l:=fun x hx=>by
  obtain ⟨k,a7,rfl⟩:=zp.1 hx;simp only [Array.length_toList] at a7;obtain ⟨t',h1,_,h3⟩:=W.keys k es[k] (by simp [a7])
  exact ⟨.string t'.data.toList,by simp only [Array.getElem_toList];rw [h1];exact xfN an h3⟩
 have au:Rel w A xH9 (ρc ov) xv:=hv.pure ao;have hsz:m.sz=2:=by rw [<-O.sz];exact a8
 have hsz':bx.xs.length=es.size:=W.size.symm;have hA:A m.b:=(O.guard ab).1 a4;have ay:∃ J Q q,(Instr.mapUpdate t (ρc om) (ρc ok) (ρc ov)).run P w=.ok () (ChangeMaps.setBlock w m.b (.map Q q))/\MapP Q J q/\J.size=(xIc bx.xs t0.data.toList xv).length /\
   (∀ (k:Nat) (x:MapEntry),J[k]?=some x->∃ t:ByteArray,x.key=.string t/\((xIc bx.xs t0.data.toList xv).getD k .top).cells.getD 0 .top=.str t.data.toList/\t.size<=maxLen) /\
   (∀ (k:Nat) (x:MapEntry),J[k]?=some x->Rel w A xH9 x.val (((xIc bx.xs t0.data.toList xv).getD k .top).cells.getD 1 .top)) /\
   (∀ (k l:Nat) (x y:MapEntry),J[k]?=some x->J[l]?=some y->x.key=y.key->k=l):=by
  rw [bc,bk];rcases xyo (val:=ρc ov) (Maps.string_keyed an) bn W.heap W.apart am (kl:=.string t0.data.toList) (xfN an (xiF ae)) with ⟨⟨Q,h1,hP⟩,h2⟩|⟨j0,e0,h1,h2,J,Q,h3,h4,hP⟩
  . have al:=W.miss h2;have hp:xIc bx.xs t0.data.toList xv=bx.xs++[.agg [.str t0.data.toList,xv]]:=by unfold xIc;rw [al]
    have V:∀ (k:Nat) (x:MapEntry),(es.push ⟨.string t0,ρc ov,clock⟩)[k]?=some x->(k<es.size/\es[k]?=some x)\/(k=es.size/\x=⟨.string t0,ρc ov,clock⟩):=fun k x hx=>by
     rw [Array.getElem?_push] at hx;split at hx
     . rename_i e;simp only [z6] at hx;exact .inr ⟨e,hx.symm⟩
     . rcases zJ k es.size with h|h
       . exact .inl ⟨h,hx⟩
       . simp [Array.getElem?_eq_none h] at hx
    refine ⟨_,_,_,h1,hP,by rw [hp];simp [hsz'],fun k x hx=>?_,fun k x hx=>?_,fun k l x y hx hy e=>?_⟩
    . rw [hp];rcases V k x hx with ⟨g1,g2⟩|⟨rfl,rfl⟩
      . obtain ⟨t',a1,a2,a3⟩:=W.keys k x g2;refine ⟨t',a1,?_,a3⟩;rw [<-a2];simp [z7,zP,hsz',g1]
      . exact ⟨t0,rfl,by simp [z7,<-hsz',AV.cells],xiF ae⟩
    . rw [hp];rcases V k x hx with ⟨g1,g2⟩|⟨rfl,rfl⟩
      . have:=W.vals k x g2;simpa [z7,zP,hsz',g1] using this
      . simpa [z7,<-hsz',AV.cells] using au
    . rcases V k x hx with ⟨g1,g2⟩|⟨rfl,rfl⟩<;>rcases V l y hy with ⟨g3,g4⟩|⟨rfl,rfl⟩
      . exact W.apart k l x y g2 g4 e
      . exact absurd e (h2 x (List.mem_of_getElem? (by simpa using g2)))
      . exact absurd e.symm (h2 y (List.mem_of_getElem? (by simpa using g4)))
      . rfl
  . obtain ⟨al,ax⟩:=W.hit h1 h2;have hp:xIc bx.xs t0.data.toList xv=bx.xs.set j0 (.agg [.str t0.data.toList,xv]):=by unfold xIc;rw [al]
    have V:∀ (k:Nat) (x:MapEntry),J[k]?=some x->(k≠j0/\es[k]?=some x)\/(k=j0/\x={ e0 with key:=.string t0,val:=ρc ov }):=fun k x hx=>by
     rw [<-Array.getElem?_toList,h3,List.getElem?_set] at hx;split at hx
     . rename_i e;subst e;split at hx
       . simp only [z6] at hx;exact .inr ⟨rfl,hx.symm⟩
       . simp at hx
     . rename_i e;exact .inl ⟨fun e'=>e e'.symm,by simpa using hx⟩
    refine ⟨_,_,_,h4,hP,by rw [hp,<-Array.length_toList,h3];simp [hsz'],fun k x hx=>?_,fun k x hx=>?_,fun k l x y hx hy e=>?_⟩
    . rw [hp];rcases V k x hx with ⟨g1,g2⟩|⟨rfl,rfl⟩
      . obtain ⟨t',a1,a2,a3⟩:=W.keys k x g2;refine ⟨t',a1,?_,a3⟩;rw [<-a2];simp [z7,List.getElem?_set,show ¬ j0=k from fun e=>g1 e.symm]
      . exact ⟨t0,rfl,by simp [z7,ax,AV.cells],xiF ae⟩
    . rw [hp];rcases V k x hx with ⟨g1,g2⟩|⟨rfl,rfl⟩
      . have:=W.vals k x g2;simpa [z7,List.getElem?_set,show ¬ j0=k from fun e=>g1 e.symm] using this
      . simpa [z7,ax,AV.cells] using au
    . have a9:es[j0]?=some e0:=by simpa using h1
      have a0:∀ (k:Nat) (x:MapEntry),J[k]?=some x->∃ y:MapEntry,es[k]?=some y/\y.key=x.key:=fun k x hx=>by
       rcases V k x hx with ⟨g1,g2⟩|⟨rfl,rfl⟩
       . exact ⟨x,g2,rfl⟩
       . exact ⟨e0,a9,h2⟩
      obtain ⟨x',a1,a2⟩:=a0 k x hx;obtain ⟨y',b1,b2⟩:=a0 l y hy;exact W.apart k l x' y' a1 b1 (by rw [a2,b2,e])
 obtain ⟨J,Q,q,r1,rP,r2,r3,r4,r5⟩:=ay;have bo:=xtd (xs:=bx.xs) (s:=t0.data.toList) (v:=xv);have az:MapB (ChangeMaps.setBlock w m.b (.map Q q)) m.b J q:=⟨Q,by simp [ChangeMaps.setBlock,O.lt ab],rP⟩
 have aa:∀ b,b≠m.b->(ChangeMaps.setBlock w m.b (.map Q q)).heap[b]?=w.heap[b]?:=fun b hb=>by
  simp [ChangeMaps.setBlock,Array.getElem?_setIfInBounds,Ne.symm hb]
 have ad:(ChangeMaps.setBlock w m.b (.map Q q)).heap.size=w.heap.size:=by simp [ChangeMaps.setBlock]
 have Z:∀ b,b<w.heap.size->¬ A b->(ChangeMaps.setBlock w m.b (.map Q q)).heap[b]?=w.heap[b]?:=fun b _ hb=>aa b fun e=>hb (e▸hA)
 have aj:n<H.length:=xcS a6;have hR':HR (ChangeMaps.setBlock w m.b (.map Q q)) A M B (H.set n ⟨ver,2,bx.ty,xIc bx.xs t0.data.toList xv,false,true⟩):=by
  refine hR.rebuild (fun k=>k=n) (fun k hk _=>zX (fun e=>hk e.symm)) (fun _ _=>rfl) (fun x m0 hx h0 c0=>⟨aa _ fun e=>hx ?_,fun h=>h⟩) Z (by rw [ad];exact zd _) (fun _ _ h=>h) (MExt.refl M) (fun x m0 hx h0=>?_) (fun x m1 x' m2 _ h1 h2 c1 c2 he=>hR.inj x x' m1 m2 h1 h2 c1 c2 he) (fun b hb=>by rw [ad];exact hR.lt b hb)
  . have:=hR.inj x (.b n) m0 m h0 ah c0 ab e;rw [this];rfl
  . cases x with
    | b k =>
     have hx:k=n:=hx;subst hx;rw [ah] at h0;cases h0;have bj:xHZ m.ty=true:=by
      rw [<-O.ty];unfold rty;split
      . rw [ac];exact ac
      . exact ac
     refine ⟨⟨ver,2,bx.ty,xIc bx.xs t0.data.toList xv,false,true⟩,by rw [xbM];exact zL aj,be.symm.trans O.ver,hsz.symm,O.ty,O.capm,?_,fun y hy=>?_,O.low,fun h0=>by rw [ad];exact O.lt h0,fun h0=>?_,fun _=>⟨fun _=>hA,fun _=>rfl⟩⟩
     . show (xIc bx.xs t0.data.toList xv).length<=m.cap;rw [hcap];unfold xIL at af;unfold maxLen;omega
     . rw [hsz];have Y:(AV.agg [.str t0.data.toList,xv]).okElem 2=true:=xrp ai;have hy:y∈xIc bx.xs t0.data.toList xv:=hy;unfold xIc at hy;split at hy
       . rcases List.mem_or_eq_of_mem_set hy with hy|rfl
         . rw [<-hsz];exact O.ok y hy
         . exact Y
       . rcases zG.1 hy with hy|hy
         . rw [<-hsz];exact O.ok y hy
         . simp only [zv] at hy;subst hy;exact Y
     . let c':Array Value:=Array.ofFn (n:=maxLen*2) fun k=>match J[k.val / 2]? with
        | some x=>if k.val % 2=0 then x.key else x.val
        | none=>undef
       have bq:J.size<=maxLen:=by
        rw [r2];unfold xIL at af;unfold maxLen;omega
       have ba:∀ (k:Nat) (x:MapEntry),J[k]?=some x->k<J.size:=fun k x hx=>by
        rcases zJ k J.size with h|h
        . exact h
        . simp [Array.getElem?_eq_none h] at hx
       have hc':∀ (k:Nat) (x:MapEntry),J[k]?=some x->c'.getD (k*m.sz) undef=x.key/\c'.getD (k*m.sz+1) undef=x.val:=fun k x hx=>by
        have hk:=ba k x hx;rw [hsz];have e1:k*2<maxLen*2:=by omega
        have e2:k*2+1<maxLen*2:=by omega
        constructor
        . rw [zu,Array.getElem?_ofFn,dif_pos e1];simp only [zh,Nat.mul_div_cancel _ (by omega:0<2),hx,Nat.mul_mod_left,if_true]
        . rw [zu,Array.getElem?_ofFn,dif_pos e2];have d1:(k*2+1) / 2=k:=by omega
          have d2:¬ (k*2+1) % 2=0:=by omega
          simp only [zh,d1,hx,d2,if_false]
       refine ⟨c',?_,by rw [hcap,hsz];exact Array.size_ofFn,fun i j hi hj=>?_⟩
       . unfold HoldsC;rw [bj];exact ⟨J,q,az,r2,hcap,hc',fun k x hx=>by obtain ⟨t',a1,_,a3⟩:=r3 k x hx;exact ⟨t',a1,a3⟩,r5⟩
       . have hi':i<J.size:=by rw [r2];exact hi
         obtain ⟨x,hx⟩:∃ x,J[i]?=some x:=⟨J[i],by simp [hi']⟩
         rw [hsz] at hj;have ae:∀ j,j<2->xHY bx.ty j=false:=fun j hj=>by
          rcases j with _|_|j
          . exact aq
          . exact ar
          . omega
         unfold MV xIk;simp only [ae j hj];show Rel _ A xH9 _ _;have ap:∀ {v:Value} {x:AV},Rel w A xH9 v x->Rel (ChangeMaps.setBlock w m.b (.map Q q)) A xH9 v x:=fun h=>h.mono Z (by rw [ad];exact zd _) (fun _ _ h=>h) (MExt.refl _)
         rcases j with _|_|j
         . rw [Nat.add_zero,(hc' i x hx).1];obtain ⟨t',a1,a2,_⟩:=r3 i x hx;show Rel _ A xH9 _ (((xIc bx.xs t0.data.toList xv).getD i .top).cells.getD 0 .top);rw [a1,a2];exact .str t'
         . rw [(hc' i x hx).2];exact ap (r4 i x hx)
         . omega
    | r k i' j' =>
     have hx:k=n:=hx;subst hx;obtain ⟨rb,k1,k2⟩:=hR.box _ m0 h0;have a5:isC bx.ty=true:=by
      cases hc:isC bx.ty with
      | true=>rfl
      | false=>rw [xaG hc] at ac;cases ac
     obtain ⟨e2,e3,e4,e5⟩:=xfD a6 a5 k1;have bp:2<=j':=by
      rcases j' with _|_|j'
      . rw [aq] at e2;cases e2
      . rw [ar] at e2;cases e2
      . omega
     have ak:∀ (xs:List AV),(∀ x,x∈xs->x.okElem 2=true)->(xs.getD i' .top).cells.getD j' .top=.top:=fun xs bh=>by
      rcases zJ i' xs.length with h|h
      . have:=xaz (bh _ (xaN h));rw [z7 (l:=(xs.getD i' .top).cells),zz (by omega)];rfl
      . have:xs.getD i' .top=.top:=by rw [z7,zz h];rfl
        rw [this,z7,zz (by simp [AV.cells];omega)];rfl
     have ag:∀ x,x∈bx.xs->x.okElem 2=true:=fun x hx=>by rw [<-hsz];exact O.ok x hx
     refine ⟨rb,?_,k2.mono (fun bg=>aa _ fun e=>?_) Z (by rw [ad];exact zd _) (fun _ _ h=>h) k2.guard (MExt.refl M)⟩
     . rw [xdr (zL aj) (by exact a5) (by exact e2) rfl (by show i'<(xIc bx.xs t0.data.toList xv).length;omega)]
       rw [e5,ak bx.xs ag];have Y:((xIc bx.xs t0.data.toList xv).getD i' .top).cells.getD j' .top=.top:=ak _ fun y hy=>by
        have Y:(AV.agg [.str t0.data.toList,xv]).okElem 2=true:=xrp ai;unfold xIc at hy;split at hy
        . rcases List.mem_or_eq_of_mem_set hy with hy|rfl
          . exact ag y hy
          . exact Y
        . rcases zG.1 hy with hy|hy
          . exact ag y hy
          . simp only [zv] at hy;subst hy;exact Y
       have e6:xIn ⟨ver,2,bx.ty,xIc bx.xs t0.data.toList xv,false,true⟩ .top=xIn bx .top:=by simp [xIn,a4]
       exact congrArg some ((congrArg (xIn ⟨ver,2,bx.ty,xIc bx.xs t0.data.toList xv,false,true⟩) Y).trans e6)
     . have:=hR.inj _ (.b k) m0 m h0 ah bg ab e;cases this
 refine ⟨.skip,ChangeMaps.setBlock w m.b (.map Q q),A,M,undef,?_,.inr ⟨rfl,rfl⟩,⟨rfl,rfl,rfl,by rw [ad];exact zd _,fun k hk=>aa k fun e=>by have:=O.low ab;omega⟩,MExt.refl M,fun _ _=>Iff.rfl,Z,⟨fun b _ hb=>aa b fun e=>hb (.b n) m ah ab e.symm,fun id m' h h0=>.inl ⟨id,m',h,h0,rfl⟩⟩,hR',.tuple #[] [] rfl (by simp)⟩
 rcases ho with ho|ho<;>simp only [execOp,ho,Sem.run_bind,r1,Result.andThen_ok,Sem.run_pure]
def getMapR (H:List Box) (n:Nat) (ver:Nat):Option Box:=match H[n]? with
 | some bx=>if bx.ver=ver/\xHZ bx.ty=true/\xHY bx.ty 0=false/\xHY bx.ty 1=true/\bx.sz=2/\bx.pm=true then some bx else none
 | none=>none
def xii {H:List Box} {n ver:Nat} {bx:Box} (h:getMapR H n ver=some bx):H[n]?=some bx/\bx.ver=ver/\xHZ bx.ty=true/\xHY bx.ty 0=false/\xHY bx.ty 1=true/\bx.sz=2/\bx.pm=true:=by
 unfold getMapR at h;split at h
 . split at h
   . rename_i hb hc;cases h;exact ⟨hb,hc⟩
   . simp at h
 . simp at h
structure MapKs (w:World) (m:MB) (xs:List AV) (es:Array MapEntry) (clock:Nat):Prop where
 heap:MapB w m.b es clock
 size:es.size=xs.length
 keys:∀ (k:Nat) (x:MapEntry),es[k]?=some x->∃ t:ByteArray,x.key=.string t/\(xs.getD k .top).cells.getD 0 .top=.str t.data.toList/\t.size<=maxLen
 apart:∀ (k l:Nat) (x y:MapEntry),es[k]?=some x->es[l]?=some y->x.key=y.key->k=l
def MapKs.miss {w:World} {m:MB} {xs:List AV} {es:Array MapEntry} {clock:Nat} (h:MapKs w m xs es clock) {t:ByteArray} (q:∀ x∈es.toList,x.key≠.string t):mapIx xs t.data.toList=none :=
 xoZ fun i hi=>by
  have hi':i<es.size:=by rw [h.size];exact hi
  obtain ⟨t',h1,h2,_⟩:=h.keys i es[i] (by simp [hi'])
  rw [h2];show (t'.data.toList==t.data.toList)=false;rw [beq_eq_false_iff_ne];intro e;exact q es[i] (by simp) (by rw [h1,xnB e])
def MapKs.hit {w:World} {m:MB} {xs:List AV} {es:Array MapEntry} {clock:Nat} (h:MapKs w m xs es clock) {t:ByteArray} {j:Nat} {e0:MapEntry} (hj:es.toList[j]?=some e0) (hk:e0.key=.string t):mapIx xs t.data.toList=some j/\j<xs.length:=by
 have q:es[j]?=some e0:=by simpa using hj
 have hj':j<es.size:=by
  rcases zJ j es.size with h|h
  . exact h
  . simp [Array.getElem?_eq_none h] at q
 have J:j<xs.length:=by rw [<-h.size];exact hj'
 refine ⟨xmD J ?_ fun i hi=>?_,J⟩
 . obtain ⟨t',h1,h2,_⟩:=h.keys j e0 q;rw [h2];rw [hk] at h1;injection h1 with h1;rw [h1];show (t'.data.toList==t'.data.toList)=true;exact beq_self_eq_true _
 . have hi':i<es.size:=by omega
   obtain ⟨t',h1,h2,_⟩:=h.keys i es[i] (by simp [hi'])
   rw [h2];show (t'.data.toList==t.data.toList)=false;rw [beq_eq_false_iff_ne];intro e;have:=h.apart i j es[i] e0 (by simp [hi']) q (by rw [h1,hk,xnB e])
   omega
def xmB {t:TypeId} (h:xHZ t=true):xHZ (rty t)=true:=by
 unfold rty;split
 . rw [h];exact h
 . exact h
def BoxAt.mapKs {w:World} {A:Nat->Prop} {M:Id->Option MB} {B:Nat} {id:Id} {m:MB} {bx:Box} (h:BoxAt w A M B id m bx) (hm:xHZ bx.ty=true) (h0:xHY bx.ty 0=false) (hs:bx.sz=2) (hp:bx.pm=true) (hcap:0<m.cap) :
  ∃ es clock,MapKs w m bx.xs es clock/\m.cap=maxLen/\∀ (k:Nat) (x:MapEntry),es[k]?=some x->Rel w A (MV M bx 1) x.val (xIk id.base k 1 bx.ty ((bx.xs.getD k .top).cells.getD 1 .top)):=by
 obtain ⟨c,c1,c2,c3⟩:=h.cells hcap;have J:xHZ m.ty=true:=by rw [<-h.ty];exact xmB hm
 unfold HoldsC at c1;rw [J] at c1;obtain ⟨es,clock,d1,d2,d3,d4,d5,d6⟩:=c1;have hsz:m.sz=2:=by rw [<-h.sz];exact hs
 have q:∀ (k:Nat) (x:MapEntry),es[k]?=some x->k<bx.xs.length:=fun k x hx=>by
  rw [<-d2];rcases zJ k es.size with h|h
  . exact h
  . simp [Array.getElem?_eq_none h] at hx
 refine ⟨es,clock,⟨d1,d2,fun k x hx=>?_,d6⟩,d3,fun k x hx=>?_⟩
 . obtain ⟨t,ht,O⟩:=d5 k x hx;have hk:=q k x hx;have h4:=c3 k 0 hk (by rw [hsz];omega)
   unfold MV xIk at h4;simp only [h0,hp] at h4;rw [Nat.add_zero,(d4 k x hx).1,ht] at h4;exact ⟨t,ht,xsw h4 (xtZ h.ok hk (by rw [hsz];omega)) (fun id ver i j e=>by rw [e] at h4;obtain ⟨_,hh,_⟩:=Rel.own_inv h4;cases hh) (fun id ver i j e=>by rw [e] at h4;obtain ⟨_,hh,_⟩:=Rel.osl_inv h4;cases hh),O⟩
 . have h4:=c3 k 1 (q k x hx) (by rw [hsz];omega)
   rw [(d4 k x hx).2] at h4;exact h4
def absLookR (P:Program) (H:List Box) (t:TypeId) (m k:AV) (c:Bool):Option AV:=match m,k,P.underlying t with
 | .own (.b n) ver _ _,.str s,some (.map kt et)=>match P.underlying kt,xHW P et,getMapR H n ver with
  | some .string,some te,some bx=>if s.length<=xIL then some (match mapIx bx.xs s with
   | some i=>match c with
    | true=>.tuple [xI0 n i 1 ((bx.xs.getD i .top).cells.getD 1 .top),.bool true]
    | false=>xI0 n i 1 ((bx.xs.getD i .top).cells.getD 1 .top)
   | none=>match c with
    | true=>.tuple [te.zero,.bool false]
    | false=>te.zero) else none
  | _,_,_=>none
 | _,_,_=>none
def lookLR {P:Program} {H:List Box} {t:TypeId} {m k r:AV} {c:Bool} (h:absLookR P H t m k c=some r):absLookL P H t m k c=none:=by
 cases hl:absLookL P H t m k c with
 | none=>rfl
 | some r' =>
  exfalso;obtain ⟨n,ver,i,j,bx,rfl,hb⟩:=xpr hl;obtain ⟨b1,b2,b3,b4,b5,_⟩:=xjn hb;unfold absLookR at h;split at h
  case h_2=>simp at h
  rename AV.own (Id.b n) ver i j=_=>heq
  cases heq;split at h
  case h_2=>simp at h
  rename_i q;obtain ⟨c1,c2,c3,c4,c5,_⟩:=xii q;rw [b1] at c1;cases c1;rw [b5] at c5;cases c5
def deadR (xs:List AV) (s:List UInt8) (n:Nat):Bool:=match mapIx xs s with
 | some i=>match deadLen ((xs.getD i .top).cells.getD 1 .top) with
  | some l0=>decide (l0<n)
  | none=>false
 | none=>true
def absPutR (P:Program) (H:List Box) (t:TypeId) (m k v:AV):Option (List Box):=match m,k,v,P.underlying t with
 | .own (.b n) ver _ _,.str s,.osl (.b id) ver2 off len,some (.map kt _)=>match P.underlying kt,getMapR H n ver,xHx H (.b id) ver2 with
  | some .string,some bx,some b2=>if bx.frz=false/\b2.frz=false/\b2.pm=true/\isC b2.ty=false/\b2.ty=rowTy bx.ty/\off=0/\len=b2.xs.length/\bx.xs.length<xIL/\s.length<=xIL/\deadR bx.xs s len=true then
   some ((H.set id ⟨ver2+1,b2.sz,b2.ty,[],false,true⟩).set n ⟨ver,2,bx.ty,xIc bx.xs s (.list b2.sz b2.xs),false,true⟩) else none
  | _,_,_=>none
 | _,_,_,_=>none
def xin:∀ {xs:List AV} {s:List UInt8} {i:Nat},mapIx xs s=some i->i<xs.length
 | [],s,i,h=>by simp [mapIx] at h
 | e::es,s,i,h=>by
  simp only [mapIx] at h;split at h
  . cases h;simp
  . cases hm:mapIx es s with
    | none=>rw [hm] at h;simp at h
    | some j =>
     rw [hm] at h;simp only [Option.map_some,z6] at h;have:=xin hm;subst h;simp;omega
def putIx (xs:List AV) (s:List UInt8):Nat:=match mapIx xs s with
 | some i=>i
 | none=>xs.length
def xkw {xs:List AV} {s:List UInt8} {v:AV} (k:Nat):(xIc xs s v).getD k .top=if k=putIx xs s then .agg [.str s,v] else xs.getD k .top:=by
 unfold xIc putIx;cases h:mapIx xs s with
 | some i =>
  have:=xin h;by_cases hk:k=i
  . subst hk;simp [z7,this]
  . simp [z7,List.getElem?_set,hk,show ¬ i=k from fun e=>hk e.symm]
 | none =>
  by_cases hk:k=xs.length
  . subst hk;simp [z7]
  . simp only [hk,if_false];rcases zJ k xs.length with g|g
    . simp [z7,zP,g]
    . rw [z7,z7,zz (by simp;omega),zz g]
def xCy {xs:List AV} {s:List UInt8} {v:AV}:putIx xs s<(xIc xs s v).length:=by
 unfold xIc putIx;cases h:mapIx xs s with
 | some i=>have:=xin h;simpa using this
 | none=>simp
section
variable {P : Program} {w : World} {A : Nat -> Prop} {M : Id -> Option MB} {B : Nat} {H : List Box}
def xvL (hR:HR w A M B H) {v:Value} {n ver i j:Nat} {bx:Box} (h:Rel w A M v (.own (.b n) ver i j)) (hb:getMapR H n ver=some bx) :
  ∃ m,M (.b n)=some m/\BoxAt w A M B (.b n) m bx/\v=.map (some m.b)/\0<m.cap:=by
 obtain ⟨O,Q,J,_⟩:=xii hb;obtain ⟨m,hm,hv,h1,he⟩:=Rel.own_inv h;obtain ⟨bx',h2,h3⟩:=hR.box _ m hm;rw [xbM,O] at h2;cases h2;refine ⟨m,hm,h3,?_⟩;have q:xHZ m.ty=true:=by rw [<-h3.ty];exact xmB J
 have h0:=he (by rw [<-Q,h3.ver])
 unfold ptrOf at h0;rw [q] at h0;cases hc:m.cap with
 | zero =>
  rw [hc] at h0;simp only at h0;rw [h0] at h1;cases h1
 | succ k =>
  rw [hc] at h0;exact ⟨h0,Nat.succ_pos k⟩
def xtT (hR:HR w A M B H) {ρc:Operand->Value} {t:TypeId} {om ok:Operand} {c:Bool} {xm xk r:AV} (hm:Rel w A M (ρc om) xm) (hk:Rel w A M (ρc ok) xk) (h:absLookR P H t xm xk c=some r) :
  ∃ v,(Instr.lookup t (ρc om) (ρc ok) c).run P w=.ok v w/\Rel w A M v r:=by
 unfold absLookR at h;split at h
 case h_2=>simp at h
 rename_i n ver i j s kt et ai;split at h
 case h_2=>simp at h
 rename_i te bx O aj W;split at h
 case isFalse=>simp at h
 rename_i af;simp only [z6] at h;obtain ⟨m,ar,an,ae,ak⟩:=xvL hR hm W;obtain ⟨ao,aq,ac,am,ag,ah,aa⟩:=xii W;obtain ⟨es,clock,q,_,J⟩:=an.mapKs ac am ah aa ak;obtain ⟨t0,ad,ab⟩:=hk.str_inv;subst ab;have V:∀ x∈es.toList,∃ l,keyOf P kt x.key=some l:=fun x hx=>by
  obtain ⟨k,Y,rfl⟩:=zp.1 hx;simp only [Array.length_toList] at Y;obtain ⟨t',h1,_,h3⟩:=q.keys k es[k] (by simp [Y])
  exact ⟨.string t'.data.toList,by simp only [Array.getElem_toList];rw [h1];exact xfN O h3⟩
 obtain ⟨z,hz,al⟩:=xrK aj w;have Z:Rel w A M z te.zero:=by rw [al];exact xcZ w A M z
 rw [ae,ad,<-h];rcases xvC c (Maps.string_keyed O) ai hz q.heap V (kl:=.string t0.data.toList) (xfN O (xiF af)) with ⟨h1,h2⟩|⟨j0,e0,h1,h2,h3⟩
 . have Q:=q.miss h2;refine ⟨_,h1,?_⟩;rw [Q];cases c
   . simpa using Z
   . simp only [if_true];exact .tuple #[z,.bool false] _ rfl fun i hi=>by
      rcases i with _|_|i
      . exact Z
      . exact .bool false
      . simp at hi;omega
 . obtain ⟨Q,ap⟩:=q.hit h1 h2;have hv:=(J j0 e0 (by simpa using h1)).unmv
   unfold xIk at hv;rw [ag] at hv;change Rel w A M e0.val (xI0 n j0 1 ((bx.xs.getD j0 .top).cells.getD 1 .top)) at hv;refine ⟨_,h3,?_⟩;rw [Q];cases c
   . simpa using hv
   . simp only [if_true];exact .tuple #[e0.val,.bool true] _ rfl fun i hi=>by
      rcases i with _|_|i
      . exact hv
      . exact .bool true
      . simp at hi;omega
def xwz (hR:HR w A M B H) {o:Oper} {ρc:Operand->Value} {t:TypeId} {om ok:Operand} {c:Bool} {xm xk r:AV} (ho:o.op=.lookup t om ok c) (hm:Rel w A M (ρc om) xm) (hk:Rel w A M (ρc ok) xk) (h:absLookR P H t xm xk c=some r) :
  Writes P o ρc w A M B r H:=by
 obtain ⟨v,h1,h2⟩:=xtT hR hm hk h;exact ⟨.value v,w,A,M,v,by simp only [execOp,ho,Sem.run_bind,h1,Result.andThen_ok,Sem.run_pure],.inl rfl,Below.refl _ _,MExt.refl M,fun _ _=>Iff.rfl,fun _ _ _=>rfl,⟨fun _ _ _=>rfl,fun id m' h h0=>.inl ⟨id,m',h,h0,rfl⟩⟩,hR,h2⟩
def MapKs.put {m:MB} {xs:List AV} {es:Array MapEntry} {clock:Nat} (O:MapKs w m xs es clock) {t kt et:TypeId} (ae:P.underlying t=some (.map kt et)) (Y:P.underlying kt=some .string) {t0:ByteArray} (Z:t0.data.toList.length<=xIL) (val:Value) (v:AV) :
  ∃ Q W clock',(Instr.mapUpdate t (.map (some m.b)) (.string t0) val).run P w=.ok () (ChangeMaps.setBlock w m.b (.map W clock'))/\MapP W Q clock'/\Q.size=(xIc xs t0.data.toList v).length /\
   (∀ (k:Nat) (x:MapEntry),Q[k]?=some x->∃ t:ByteArray,x.key=.string t/\((xIc xs t0.data.toList v).getD k .top).cells.getD 0 .top=.str t.data.toList/\t.size<=maxLen) /\
   (∀ (k l:Nat) (x y:MapEntry),Q[k]?=some x->Q[l]?=some y->x.key=y.key->k=l) /\
   (∀ (k:Nat) (x:MapEntry),Q[k]?=some x->(k≠putIx xs t0.data.toList/\es[k]?=some x)\/(k=putIx xs t0.data.toList/\x.val=val)):=by
 have hsz':xs.length=es.size:=O.size.symm;have aa:∀ x∈es.toList,∃ l,keyOf P kt x.key=some l:=fun x hx=>by
  obtain ⟨k,ab,rfl⟩:=zp.1 hx;simp only [Array.length_toList] at ab;obtain ⟨t',h1,_,h3⟩:=O.keys k es[k] (by simp [ab])
  exact ⟨.string t'.data.toList,by simp only [Array.getElem_toList];rw [h1];exact xfN Y h3⟩
 rcases xyo (val:=val) (Maps.string_keyed Y) ae O.heap O.apart aa (kl:=.string t0.data.toList) (xfN Y (xiF Z)) with ⟨⟨W,h1,hP⟩,h2⟩|⟨j0,e0,h1,h2,Q,W,h3,h4,hP⟩
 . have V:=O.miss h2;have J:putIx xs t0.data.toList=xs.length:=by unfold putIx;rw [V]
   have hp:(xIc xs t0.data.toList v).length=xs.length+1:=by unfold xIc;rw [V];simp
   have q:∀ (k:Nat) (x:MapEntry),(es.push ⟨.string t0,val,clock⟩)[k]?=some x->(k<es.size/\es[k]?=some x)\/(k=es.size/\x=⟨.string t0,val,clock⟩):=fun k x hx=>by
    rw [Array.getElem?_push] at hx;split at hx
    . rename_i e;simp only [z6] at hx;exact .inr ⟨e,hx.symm⟩
    . rcases zJ k es.size with h|h
      . exact .inl ⟨h,hx⟩
      . simp [Array.getElem?_eq_none h] at hx
   refine ⟨_,_,_,h1,hP,by rw [hp];simp [hsz'],fun k x hx=>?_,fun k l x y hx hy e=>?_,fun k x hx=>?_⟩
   . rw [xkw,J];rcases q k x hx with ⟨g1,g2⟩|⟨rfl,rfl⟩
     . obtain ⟨t',a1,a2,a3⟩:=O.keys k x g2;exact ⟨t',a1,by rw [if_neg (by omega)];exact a2,a3⟩
     . exact ⟨t0,rfl,by rw [if_pos hsz'.symm];rfl,xiF Z⟩
   . rcases q k x hx with ⟨g1,g2⟩|⟨rfl,rfl⟩<;>rcases q l y hy with ⟨g3,g4⟩|⟨rfl,rfl⟩
     . exact O.apart k l x y g2 g4 e
     . exact absurd e (h2 x (List.mem_of_getElem? (by simpa using g2)))
     . exact absurd e.symm (h2 y (List.mem_of_getElem? (by simpa using g4)))
     . rfl
   . rcases q k x hx with ⟨g1,g2⟩|⟨rfl,rfl⟩
     . exact .inl ⟨by rw [J];omega,g2⟩
     . exact .inr ⟨by rw [J];exact hsz'.symm,rfl⟩
 . obtain ⟨V,af⟩:=O.hit h1 h2;have J:putIx xs t0.data.toList=j0:=by unfold putIx;rw [V]
   have hp:(xIc xs t0.data.toList v).length=xs.length:=by unfold xIc;rw [V];simp
   have q:∀ (k:Nat) (x:MapEntry),Q[k]?=some x->(k≠j0/\es[k]?=some x)\/(k=j0/\x={ e0 with key:=.string t0,val:=val }):=fun k x hx=>by
    rw [<-Array.getElem?_toList,h3,List.getElem?_set] at hx;split at hx
    . rename_i e;subst e;split at hx
      . simp only [z6] at hx;exact .inr ⟨rfl,hx.symm⟩
      . simp at hx
    . rename_i e;exact .inl ⟨fun e'=>e e'.symm,by simpa using hx⟩
   refine ⟨_,_,_,h4,hP,by rw [hp,<-Array.length_toList,h3];simp [hsz'],fun k x hx=>?_,fun k l x y hx hy e=>?_,fun k x hx=>?_⟩
   . rw [xkw,J];rcases q k x hx with ⟨g1,g2⟩|⟨rfl,rfl⟩
     . obtain ⟨t',a1,a2,a3⟩:=O.keys k x g2;exact ⟨t',a1,by rw [if_neg g1];exact a2,a3⟩
     . exact ⟨t0,rfl,by rw [if_pos rfl];rfl,xiF Z⟩
   . have ad:es[j0]?=some e0:=by simpa using h1
     have ac:∀ (k:Nat) (x:MapEntry),Q[k]?=some x->∃ y:MapEntry,es[k]?=some y/\y.key=x.key:=fun k x hx=>by
      rcases q k x hx with ⟨g1,g2⟩|⟨rfl,rfl⟩
      . exact ⟨x,g2,rfl⟩
      . exact ⟨e0,ad,h2⟩
     obtain ⟨x',a1,a2⟩:=ac k x hx;obtain ⟨y',b1,b2⟩:=ac l y hy;exact O.apart k l x' y' a1 b1 (by rw [a2,b2,e])
   . rcases q k x hx with ⟨g1,g2⟩|⟨rfl,rfl⟩
     . exact .inl ⟨by rw [J];exact g1,g2⟩
     . exact .inr ⟨J.symm,rfl⟩
end
section
variable {P : Program} {w : World} {A : Nat -> Prop} {M : Id -> Option MB} {B : Nat} {H : List Box}
def xzt (hR:HR w A M B H) {o:Oper} {ρc:Operand->Value} {t:TypeId} {om ok ov:Operand} {xm xk xv:AV} {H':List Box} (ho:o.op=.mapUpdate t om ok ov\/o.op=.insert t om ok ov) (hm:Rel w A M (ρc om) xm) (hk:Rel w A M (ρc ok) xk) (hv:Rel w A M (ρc ov) xv) (h:absPutR P H t xm xk xv=some H') :
  Writes P o ρc w A M B (.tuple []) H':=by
 unfold absPutR at h;split at h
 case h_2=>simp at h
 rename_i n ver i j s id ac off len kt et co;split at h
 case h_2=>simp at h
 rename_i bx b2 ca bg a0;split at h
 case isFalse=>simp at h
 rename_i ci;obtain ⟨bt,bo,bk,ai,bu,rfl,rfl,a9,b0,Q⟩:=ci;cases h;obtain ⟨m,a7,Z,ce,ap⟩:=xvL hR hm bg;obtain ⟨ax,cg,bn,bv,aq,bw,cj⟩:=xii bg;obtain ⟨es,clock,b9,hcap,bb⟩:=Z.mapKs bn bv bw cj ap;obtain ⟨t0,cl,cd⟩:=hk.str_inv;subst cd;obtain ⟨m2,a2,ak,W,b7,cv,ct⟩:=xir hR hv a0;obtain ⟨ag,a5⟩:=xaK a0;rw [xbM] at ag;have ao:isC bx.ty=true:=xeM aq;have hne:id≠n:=fun e=>by
  subst e;rw [ax] at ag;cases ag;rw [ai] at ao;cases ao
 have hsz:m.sz=2:=by rw [<-Z.sz];exact bw
 have hA:A m.b:=(Z.guard ap).1 bt;have ck:xHZ m.ty=true:=by rw [<-Z.ty];exact xmB bn
 obtain ⟨ab,af,q,r1,rP,r2,r3,r5,r4⟩:=b9.put co ca b0 (ρc ov) (.list b2.sz b2.xs);generalize Y:putIx bx.xs t0.data.toList=ix at r4;have bj:MapB (ChangeMaps.setBlock w m.b (.map af q)) m.b ab q:=⟨af,by simp [ChangeMaps.setBlock,Z.lt ap],rP⟩
 have an:∀ b,b≠m.b->(ChangeMaps.setBlock w m.b (.map af q)).heap[b]?=w.heap[b]?:=fun b hb=>by
  simp [ChangeMaps.setBlock,Array.getElem?_setIfInBounds,Ne.symm hb]
 have aj:(ChangeMaps.setBlock w m.b (.map af q)).heap.size=w.heap.size:=by simp [ChangeMaps.setBlock]
 have V:∀ b,b<w.heap.size->¬ A b->(ChangeMaps.setBlock w m.b (.map af q)).heap[b]?=w.heap[b]?:=fun b _ hb=>an b fun e=>hb (e▸hA)
 have bp:n<H.length:=xcS ax;have cn:id<H.length:=xcS ag;let M':Id->Option MB:=fun x=>if x=.b id then some ⟨m2.b,m2.ver+1,m2.sz,0,m2.ty⟩ else if x=.r n ix 1 then some ⟨m2.b,2*b2.xs.length,m2.sz,m2.cap,m2.ty⟩ else M x
 have ar:M' (.b id)=some ⟨m2.b,m2.ver+1,m2.sz,0,m2.ty⟩:=by simp [M']
 have am:M' (.r n ix 1)=some ⟨m2.b,2*b2.xs.length,m2.sz,m2.cap,m2.ty⟩:=by simp [M']
 have ah:∀ x:Id,x≠.b id->x≠.r n ix 1->M' x=M x:=fun x h1 h2=>by simp [M',h1,h2]
 have bq:∀ m0,M (.r n ix 1)=some m0->m0.ver<2*b2.xs.length:=fun m0 h0=>by
  obtain ⟨rb,k1,k2⟩:=hR.box _ m0 h0;obtain ⟨k4,k5,k6,k7⟩:=xfD ax ao k1;have k8:=k2.ver;rw [k7] at k8;unfold putIx at Y;unfold deadR at Q;cases hi:mapIx bx.xs t0.data.toList with
  | none =>
   rw [hi] at Y;simp only at Y;omega
  | some i =>
   rw [hi] at Y Q;simp only at Y Q;subst Y;unfold deadLen at Q;split at Q
   . rename_i l0 a6;split at a6
     . rename_i kk l hl;simp only [z6] at a6;simp only [zl] at Q;rw [hl] at k8;simp only [xIn,rowLen] at k8;omega
     . simp at a6
   . simp at Q
 have ad:MExt M M':=fun x m0 h0=>by
  by_cases e1:x=.b id
  . subst e1;rw [ak] at h0;cases h0;exact ⟨_,ar,.inr (Nat.lt_succ_self _)⟩
  . by_cases e2:x=.r n ix 1
    . subst e2;exact ⟨_,am,.inr (bq m0 h0)⟩
    . exact ⟨m0,by rw [ah x e1 e2];exact h0,.inl rfl⟩
 have au:∀ x m',M' x=some m'->0<m'.cap->∃ y m0,M y=some m0/\m0.b=m'.b/\m0.cap=m'.cap/\(x=.r n ix 1/\y=.b id\/x=y/\y≠.b id/\y≠.r n ix 1):=fun x m' h h0=>by
  by_cases e1:x=.b id
  . subst e1;rw [ar] at h;cases h;exact absurd h0 (by simp)
  . by_cases e2:x=.r n ix 1
    . subst e2;rw [am] at h;cases h;exact ⟨_,m2,ak,rfl,rfl,.inl ⟨rfl,rfl⟩⟩
    . rw [ah x e1 e2] at h;exact ⟨x,m',h,rfl,rfl,.inr ⟨rfl,e1,e2⟩⟩
 have bh:∀ (x:Id) m1 x' m2,M' x=some m1->M' x'=some m2->0<m1.cap->0<m2.cap->m1.b=m2.b->x=x':=fun x m1 x' m2 h1 h2 c1 c2 he=>by
  obtain ⟨y,n1,a1,a2,a3,a4⟩:=au x m1 h1 c1;obtain ⟨y',n2,b1,b2,b3,b4⟩:=au x' m2 h2 c2;have:=hR.inj y y' n1 n2 a1 b1 (by omega) (by omega) (by rw [a2,b2,he])
  subst this;rcases a4 with ⟨rfl,e1⟩|⟨rfl,e1,_⟩<;>rcases b4 with ⟨rfl,e2⟩|⟨rfl,e2,_⟩
  . rfl
  . exact absurd e1 e2
  . exact absurd e2 e1
  . rfl
 have ae:∀ (x:Id) m0,x≠.b n->M x=some m0->0<m0.cap->(ChangeMaps.setBlock w m.b (.map af q)).heap[m0.b]?=w.heap[m0.b]?:=fun x m0 hx h0 c0=>an m0.b fun e=>hx (hR.inj x (.b n) m0 m h0 a7 c0 ap e)
 generalize aa:xIc bx.xs t0.data.toList (.list b2.sz b2.xs)=J at r2 r3;have ay:∀ k,J.getD k .top=if k=ix then .agg [.str t0.data.toList,.list b2.sz b2.xs] else bx.xs.getD k .top:=fun k=>by rw [<-aa,<-Y];exact xkw k
 have cq:J.length<=bx.xs.length+1:=by rw [<-aa];exact xtd.2
 have bz:bx.xs.length<=J.length:=by rw [<-aa];exact xtd.1
 have ba:ix<J.length:=by rw [<-aa,<-Y];exact xCy
 have b6:ix<=bx.xs.length:=by
  rw [<-Y];unfold putIx;cases hi:mapIx bx.xs t0.data.toList with
  | none=>exact zd _
  | some i=>exact Nat.le_of_lt (xin hi)
 have aw:∀ k,k<J.length->k≠ix->k<bx.xs.length:=fun k hk hne=>by
  unfold xIc at aa;unfold putIx at Y;cases hi:mapIx bx.xs t0.data.toList with
  | none=>rw [hi] at Y;simp only at Y;omega
  | some i=>rw [hi] at aa;rw [<-aa] at hk;simpa using hk
 have bf:((H.set id ⟨ac+1,b2.sz,b2.ty,[],false,true⟩).set n ⟨ver,2,bx.ty,J,false,true⟩)[n]?=some ⟨ver,2,bx.ty,J,false,true⟩:=zL (by simpa using bp)
 have bi:((H.set id ⟨ac+1,b2.sz,b2.ty,[],false,true⟩).set n ⟨ver,2,bx.ty,J,false,true⟩)[id]?=some ⟨ac+1,b2.sz,b2.ty,[],false,true⟩:=by
  rw [zX (Ne.symm hne),zL cn]
 have bc:∀ k,xHY bx.ty k=true->k=1:=fun k hk=>by rw [xoE hk,<-xoE aq]
 have hR':HR (ChangeMaps.setBlock w m.b (.map af q)) A M' B ((H.set id ⟨ac+1,b2.sz,b2.ty,[],false,true⟩).set n ⟨ver,2,bx.ty,J,false,true⟩):=by
  refine hR.rebuild (fun k=>k=n\/k=id) (fun k hk cu=>?_) (fun x O=>ah x (fun e=>O (.inr (by rw [e];rfl))) fun e=>O (.inl (by rw [e];rfl))) (fun x m0 O h0 c0=>⟨ae x m0 (fun e=>O (.inl (by rw [e];rfl))) h0 c0,fun h=>h⟩) V (by rw [aj];exact zd _) (fun _ _ h=>h) ad (fun x m' hS O=>?_) (fun x m1 x' m2 _ h1 h2 c1 c2 he=>bh x m1 x' m2 h1 h2 c1 c2 he) (fun b hb=>by rw [aj];exact hR.lt b hb)
  . rw [zX (fun e=>hk (.inl e.symm)),zX (fun e=>hk (.inr e.symm))]
  . by_cases e1:x=.b id
    . subst e1;rw [ar] at O;cases O;have hc:∀ {p:Prop},0<(0:Nat)->p:=fun h=>absurd h (by simp)
      exact ⟨(⟨ac+1,b2.sz,b2.ty,[],false,true⟩:Box),bi,by simp only;rw [<-W.ver,a5],W.sz,W.ty,zQ _,zQ _,fun x hx=>by simp at hx,hc,hc,hc,hc⟩
    . by_cases e2:x=.r n ix 1
      . subst e2;rw [am] at O;cases O;have cb:getB ((H.set id ⟨ac+1,b2.sz,b2.ty,[],false,true⟩).set n ⟨ver,2,bx.ty,J,false,true⟩) (.r n ix 1)=some ⟨2*b2.xs.length,b2.sz,rowTy bx.ty,b2.xs,false,true⟩:=by
         rw [xdr bf ao aq rfl ba];show some (xIn _ ((J.getD ix .top).cells.getD 1 .top))=_;rw [ay,if_pos rfl];rfl
        have k4:=W.mono (w':=ChangeMaps.setBlock w m.b (.map af q)) (A':=A) (M':=M') (fun h0=>ae (.b id) m2 (fun e=>hne (by injection e)) ak h0) V (by rw [aj];exact zd _) (fun _ _ h=>h) W.guard ad
        refine ⟨_,cb,rfl,k4.sz,by rw [<-bu];exact k4.ty,k4.capm,k4.fits,k4.ok,k4.low,k4.lt,fun h0=>?_,fun h0=>?_⟩
        . obtain ⟨cc,c1,c2,c3⟩:=k4.cells h0;refine ⟨cc,c1,c2,fun i' j' be hk=>?_⟩
          have h4:=c3 i' j' be hk;rw [xaw ai,xbf ai,bk] at h4;rw [xaw (xb1 _),xbf (bx:=⟨2*b2.xs.length,b2.sz,rowTy bx.ty,b2.xs,false,true⟩) (xb1 _)];exact h4
        . have:=k4.guard h0;rw [bo] at this;exact this
      . by_cases al:x.base=id
        . rw [ah x e1 e2] at O;obtain ⟨bx',k1,k2⟩:=hR.box x m' O;cases x with
          | b k=>exact absurd (by rw [<-al];rfl) e1
          | r k i' j' =>
           simp only [Id.base] at al;subst al;rw [xec ag ai] at k1;cases k1;exact ⟨tombB,xec bi ai,k2.mono (fun h0=>ae _ m' (fun e=>by cases e) O h0) V (by rw [aj];exact zd _) (fun _ _ h=>h) k2.guard ad⟩
        have az:x.base=n:=by
         rcases hS with h|h
         . exact h
         . exact absurd h al
        rw [ah x e1 e2] at O;obtain ⟨bx',k1,k2⟩:=hR.box x m' O;cases x with
        | r n' i' j' =>
         simp only [Id.base] at az;subst az;have k3:getB ((H.set id ⟨ac+1,b2.sz,b2.ty,[],false,true⟩).set n' ⟨ver,2,bx.ty,J,false,true⟩) (.r n' i' j')=some bx':=by
          obtain ⟨b5,e3,e4,e5⟩:=xfD ax ao k1;have ch:=bc j' b5;subst ch;have cf:i'≠ix:=fun e=>e2 (by rw [e])
          rw [xdr bf ao aq rfl (by show i'<J.length;omega),e5]
          show some (xIn _ ((J.getD i' .top).cells.getD 1 .top))=_;rw [ay,if_neg cf];have:∀ y:AV,xIn ⟨ver,2,bx.ty,J,false,true⟩ y=xIn bx y:=fun y=>by
           cases y<;>simp [xIn,bt]
          rw [this]
         exact ⟨bx',k3,k2.mono (fun h0=>ae _ m' (fun e=>by cases e) O h0) V (by rw [aj];exact zd _) (fun _ _ h=>h) k2.guard ad⟩
        | b n' =>
         simp only [Id.base] at az;subst az;rw [a7] at O;cases O;have hroom':J.length<=maxLen:=by
          unfold xIL at a9;unfold maxLen;omega
         refine ⟨⟨ver,2,bx.ty,J,false,true⟩,bf,cg.symm.trans Z.ver,hsz.symm,Z.ty,Z.capm,by rw [hcap];exact hroom',fun y hy=>?_,Z.low,fun h0=>by rw [aj];exact Z.lt h0,fun h0=>?_,fun _=>⟨fun _=>hA,fun _=>rfl⟩⟩
         . rw [hsz];obtain ⟨k,hk,rfl⟩:=xio hy;rw [ay];by_cases a8:k=ix
           . rw [if_pos a8];exact xrp rfl
           . rw [if_neg a8,<-hsz];exact Z.ok _ (xaN (aw k hk a8))
         . let c':Array Value:=Array.ofFn (n:=maxLen*2) fun k=>match ab[k.val / 2]? with
            | some x=>if k.val % 2=0 then x.key else x.val
            | none=>undef
           have cr:ab.size<=maxLen:=by rw [r2];exact hroom'
           have b8:∀ (k:Nat) (x:MapEntry),ab[k]?=some x->k<ab.size:=fun k x hx=>by
            rcases zJ k ab.size with h|h
            . exact h
            . simp [Array.getElem?_eq_none h] at hx
           have hc':∀ (k:Nat) (x:MapEntry),ab[k]?=some x->c'.getD (k*m.sz) undef=x.key/\c'.getD (k*m.sz+1) undef=x.val:=fun k x hx=>by
            have hk:=b8 k x hx;rw [hsz];have e1:k*2<maxLen*2:=by omega
            have e2:k*2+1<maxLen*2:=by omega
            constructor
            . rw [zu,Array.getElem?_ofFn,dif_pos e1];simp only [zh,Nat.mul_div_cancel _ (by omega:0<2),hx,Nat.mul_mod_left,if_true]
            . rw [zu,Array.getElem?_ofFn,dif_pos e2];have d1:(k*2+1) / 2=k:=by omega
              have d2:¬ (k*2+1) % 2=0:=by omega
              simp only [zh,d1,hx,d2,if_false]
           refine ⟨c',?_,by rw [hcap,hsz];exact Array.size_ofFn,fun i' j' be cm=>?_⟩
           . unfold HoldsC;rw [ck];exact ⟨ab,q,bj,r2,hcap,hc',fun k x hx=>by obtain ⟨t',a1,_,a3⟩:=r3 k x hx;exact ⟨t',a1,a3⟩,r5⟩
           . have cp:i'<ab.size:=by rw [r2];exact be
             obtain ⟨x,hx⟩:∃ x,ab[i']?=some x:=⟨ab[i'],by simp [cp]⟩
             rw [hsz] at cm;rcases j' with _|_|j'
             . rw [Nat.add_zero,(hc' i' x hx).1];obtain ⟨t',a1,a2,_⟩:=r3 i' x hx;unfold MV xIk;simp only [bv];rw [a1,a2];exact .str t'
             . rw [(hc' i' x hx).2];unfold MV xIk;simp only [aq];rw [ay];rcases r4 i' x hx with ⟨g1,g2⟩|⟨g1,g2⟩
               . rw [if_neg g1];have h4:=bb i' x g2;unfold MV xIk at h4;simp only [aq] at h4;exact h4.mono V (by rw [aj];exact zd _) (fun _ _ h=>h) ad
               . rw [if_pos g1,g2];subst g1;obtain ⟨m3,q1,q2,q3,q4⟩:=Rel.osl_inv hv;rw [ak] at q1;cases q1;obtain ⟨q5,a,q6,q7⟩:=q4 (by rw [<-a5,W.ver])
                 exact .osl _ (.r n' i' 1) _ _ _ _ am (zd _) q3 fun _=>⟨q5,a,q6,q7⟩
             . omega
 refine ⟨.skip,ChangeMaps.setBlock w m.b (.map af q),A,M',undef,?_,.inr ⟨rfl,rfl⟩,⟨rfl,rfl,rfl,by rw [aj];exact zd _,fun k hk=>an k fun e=>by have:=Z.low ap;omega⟩,ad,fun _ _=>Iff.rfl,V,⟨fun b _ hb=>an b fun e=>hb (.b n) m a7 ap e.symm,fun x m' h h0=>?_⟩,hR',.tuple #[] [] rfl (by simp)⟩
 . rcases ho with ho|ho<;>simp only [execOp,ho,Sem.run_bind,ce,cl,r1,Result.andThen_ok,Sem.run_pure]
 . obtain ⟨y,m0,a1,a2,a3,_⟩:=au x m' h h0;exact .inl ⟨y,m0,a1,by omega,a2.symm⟩
end
def xwA (hR:HR w A M B H) (hB:B<=w.heap.size) {o:Oper} {ρc:Operand->Value} {t:TypeId} {r:AV} {H':List Box} (ho:o.op=.makeMap t none) (h:absMakeM P H t=some (r,H')) :
  Writes P o ρc w A M B r H':=by
 unfold absMakeM at h;split at h
 case h_2=>simp at h
 rename_i kt et ah;split at h
 case h_2=>simp at h
 rename_i ty ag af;split at h
 case isFalse=>simp at h
 rename_i aa;obtain ⟨Q,ac⟩:=aa;simp only [z6,zb] at h;obtain ⟨rfl,rfl⟩:=h;have hn:Free M H.length:=hR.free_of_length (zd _);have q:=xfa w (.map #[] 0);have Y:rty ty=ty:=by unfold rty;rw [ac,Q]
 let m:MB:=⟨w.heap.size,0,2,maxLen,ty⟩;have O:MExt M (MPut M H.length m):=xm4 hn m;have hA:∀ b,b<w.heap.size->(APut A w.heap.size false b->A b):=fun b hb h=>by
  rcases h with h|⟨h,_⟩
  . exact h
  . omega
 have J:MPut M H.length m (.b H.length)=some m:=by simp [MPut]
 have Z:(H++[⟨0,2,ty,[],false,true⟩])[H.length]?=some ⟨0,2,ty,[],false,true⟩:=by simp
 have ad:∀ x:Id,x≠.b H.length->MPut M H.length m x=M x:=fun x hx=>by simp [MPut,hx]
 have hR':HR (w.alloc (.map #[] 0)) (APut A w.heap.size false) (MPut M H.length m) B (H++[⟨0,2,ty,[],false,true⟩]):=by
  refine hR.rebuild (fun k=>k=H.length) (fun k hk ae=>zO ae) (fun x hx=>ad x fun e=>hx (by rw [e];rfl)) (fun x m0 hx h0 c0=>?_) (fun b hb _=>q.block b hb) q.size hA O (fun x m0 hx h0=>?_) (fun x m1 x' m2 hx h1 h2 c1 c2 he=>?_) (fun b hb=>?_)
  . obtain ⟨bx,_,k2⟩:=hR.box x m0 h0;exact ⟨q.block _ (k2.lt c0),.inl⟩
  . cases x with
    | b k =>
     have hx:k=H.length:=hx;subst hx;rw [J] at h0;cases h0;refine ⟨_,Z,rfl,rfl,Y,zd _,zQ _,fun y hy=>by simp at hy,fun _=>hB,fun _=>by simp [m],fun _=>⟨Array.replicate (maxLen*2) undef,?_,by simp [m],fun i j hi _=>by simp at hi⟩,fun _=>⟨fun _=>.inr ⟨rfl,rfl⟩,fun _=>rfl⟩⟩
     unfold HoldsC;show match xHZ ty with|false=>_|true=>_
     rw [Q];exact ⟨#[],0,⟨#[],heap_alloc_new w _,.refl _,by simp,by simp⟩,rfl,rfl,fun k x hx=>by simp at hx,fun k x hx=>by simp at hx,fun k l x y hx=>by simp at hx⟩
    | r k i j =>
     have hx:k=H.length:=hx;subst hx;have:MPut M H.length m (.r H.length i j)=M (.r H.length i j):=by simp [MPut]
     rw [this,hn.2] at h0;cases h0
  . have ab:x=.b H.length:=by
     cases x with
     | b k=>have hx:k=H.length:=hx;rw [hx]
     | r k i j =>
      have hx:k=H.length:=hx;subst hx;have:MPut M H.length m (.r H.length i j)=M (.r H.length i j):=by simp [MPut]
      rw [this,hn.2] at h1;cases h1
    subst ab;rw [J] at h1;cases h1;by_cases V:x'=.b H.length
    . exact V.symm
    . have h2':M x'=some m2:=by simpa [MPut,V] using h2
      obtain ⟨bx',_,h3⟩:=hR.box x' m2 h2';have:=h3.lt c2;rw [<-he] at this;simp [m] at this
  . rcases hb with hb|⟨rfl,_⟩
    . have:=hR.lt b hb;simp;omega
    . simp
 refine ⟨.value (.map (some w.heap.size)),w.alloc (.map #[] 0),APut A w.heap.size false,MPut M H.length m,.map (some w.heap.size),?_,.inl rfl,⟨rfl,rfl,rfl,q.size,fun k hk=>q.block k (Nat.lt_of_lt_of_le hk hB)⟩,O,fun b hb=>⟨hA b hb,.inl⟩,fun b hb _=>q.block b hb,Touch.of_new q (fun id m' h=>?_),hR',.own _ (.b H.length) 0 0 0 m J (zd _) rfl fun _=>?_⟩
 . simp [execOp,ho,Instr.makeMap]
 . by_cases W:id=.b H.length
   . subst W;rw [J] at h;cases h;exact .inr (zd _)
   . exact .inl (by simpa [MPut,W] using h)
 . unfold ptrOf;show _=match xHZ ty with|true=>_|false=>_
   rw [Q];rfl
end
end
section
variable {P : Program} {w : World} {A : Nat -> Prop} {M : Id -> Option MB} {B : Nat} {H : List Box}
def iop (P:Program) (ρ:Operand->AV) (H:List Box) (op:Op):Option (AV×List Box) :=
 match op with
 | .store t a v=>match mkd H (ρ a) with
  | true=>match absAdopt P H t (ρ a) (ρ v) with
   | some H'=>some (.tuple [],H')
   | none=>none
  | false=>match absStore P H t (ρ a) (ρ v) with
   | some H'=>some (.tuple [],H')
   | none=>none
 | .call c=>match c.callee with
  | .builtin b=>match b,c.argTypes.toList,c.args.toList with
   | .append,[t,t'],[s,x]=>match isRowRef (ρ s) with
    | true=>absTake P H t t' (ρ s) (ρ x)
    | false=>match mkd H (ρ s) with
     | true=>absAppC P H t t' (ρ s) (ρ x)
     | false=>xIx P H t t' (ρ s) (ρ x)
   | _,_,_=>none
  | _=>none
 | .lookup t m k c=>match absLookL P H t (ρ m) (ρ k) c with
  | some r=>some (r,H)
  | none=>match absLookM P H t (ρ m) (ρ k) c with
   | some r=>some (r,H)
   | none=>match absLookR P H t (ρ m) (ρ k) c with
    | some r=>some (r,H)
    | none=>none
 | .mapUpdate t m k v=>match absPutM P H t (ρ m) (ρ k) (ρ v) with
  | some H'=>some (.tuple [],H')
  | none=>match absPutR P H t (ρ m) (ρ k) (ρ v) with
   | some H'=>some (.tuple [],H')
   | none=>none
 | .makeMap t r=>match r with
  | none=>absMakeM P H t
  | some _=>none
 | _=>none
def xAR (hR:HR w A M B H) (hB:B<=w.heap.size) {ρ:Operand->AV} {ρc:Operand->Value} {o:Oper} {x:AV} {H':List Box} (hρ:∀ a,Rel w A M (ρc a) (ρ a)) (h:iop P ρ H o.op=some (x,H')):Writes P o ρc w A M B x H':=by
 unfold iop at h;split at h
 . rename_i t a v ho;split at h
   . split at h
     case h_2=>simp at h
     rename_i H2 q;simp only [z6,zb] at h;obtain ⟨rfl,rfl⟩:=h;exact xwj hR ho (hρ a) (hρ v) q
   . split at h
     case h_2=>simp at h
     rename_i H2 q;simp only [z6,zb] at h;obtain ⟨rfl,rfl⟩:=h;exact xwP hR ho (hρ a) (hρ v) q
 . rename_i c ho;split at h
   case h_2=>simp at h
   rename_i b J;split at h
   . rename_i t t' s y O Q;split at h
     . exact xzQ hR hB ho J O Q (hρ s) (hρ y) h
     . split at h
       . exact xyW hR hB ho J O Q (hρ s) (hρ y) h
       . exact xpT hR hB ho J O Q (hρ s) (hρ y) h
   . simp at h
 . rename_i t m k c ho;split at h
   . rename_i r q;simp only [z6,zb] at h;obtain ⟨rfl,rfl⟩:=h;exact xwy hR ho (hρ m) (hρ k) q
   split at h
   . rename_i r q;simp only [z6,zb] at h;obtain ⟨rfl,rfl⟩:=h;exact xzk hR ho (hρ m) (hρ k) q
   . split at h
     case h_2=>simp at h
     rename_i r q;simp only [z6,zb] at h;obtain ⟨rfl,rfl⟩:=h;exact xwz hR ho (hρ m) (hρ k) q
 . rename_i t m k v ho;split at h
   . rename_i H2 q;simp only [z6,zb] at h;obtain ⟨rfl,rfl⟩:=h;exact xzr hR (.inl ho) (hρ m) (hρ k) (hρ v) q
   . split at h
     case h_2=>simp at h
     rename_i H2 q;simp only [z6,zb] at h;obtain ⟨rfl,rfl⟩:=h;exact xzt hR (.inl ho) (hρ m) (hρ k) (hρ v) q
 . rename_i t r ho;split at h
   . exact xwA hR hB ho h
   . simp at h
 . simp at h
end
def absAppE (P:Program) (H:List Box) (nid:Nat) (t tt:TypeId) (s x:AV):Option (AV×Option Box) :=
 match s with
 | .empt=>match xHW P t with
  | some ti=>match ti.d with
   | .slice e=>match xHW P e with
    | some te=>match absSrc P H t tt e te.sz x with
     | some (ys,pm)=>if 0<te.sz/\ys.length*te.bytes<=140737488355328/\ys.length<=xIL/\te.zero.okElem te.sz=true then some (.osl nid 0 0 ys.length,some ⟨0,te.sz,e,ys,false,pm⟩) else none
     | none=>none
    | none=>none
   | _=>none
  | none=>none
 | _=>none
section
variable {P : Program} {w : World} {A : Nat -> Prop} {M : Id -> Option MB} {B : Nat} {H : List Box} {nid : Nat}
def HR.virtAt (hR:HR w A M B H) (hn:Free M nid) {bx:Box} (hH:H[nid]?=some bx) (hx:bx.xs=[]) (W:isC bx.ty=false) :
  MExt M (MPut M nid ⟨0,bx.ver,bx.sz,0,bx.ty⟩)/\NewId w M (MPut M nid ⟨w.heap.size,bx.ver,bx.sz,0,bx.ty⟩) nid/\HR w A (MPut M nid ⟨w.heap.size,bx.ver,bx.sz,0,bx.ty⟩) B H/\MPut M nid ⟨w.heap.size,bx.ver,bx.sz,0,bx.ty⟩ nid=some ⟨w.heap.size,bx.ver,bx.sz,0,bx.ty⟩/\MExt M (MPut M nid ⟨w.heap.size,bx.ver,bx.sz,0,bx.ty⟩):=by
 have Q:MExt M (MPut M nid ⟨w.heap.size,bx.ver,bx.sz,0,bx.ty⟩):=xm4 hn _;have O:∀ id m',MPut M nid ⟨w.heap.size,bx.ver,bx.sz,0,bx.ty⟩ id=some m'->0<m'.cap->M id=some m':=fun id m' hm h0=>by
  by_cases q:id=.b nid
  . subst q;simp [MPut] at hm;subst hm;exact absurd h0 (by simp)
  . simpa [MPut,q] using hm
 refine ⟨xm4 hn _,⟨fun id q=>by simp [MPut,q],fun m' J=>.inr (by simp [MPut] at J;subst J;exact zd _)⟩,⟨fun id m' J=>?_,fun id id' m1 m2 h1 h2 c1 c2 he=>hR.inj id id' m1 m2 (O id m1 h1 c1) (O id' m2 h2 c2) c1 c2 he,hR.lt⟩,by simp [MPut],Q⟩
 by_cases q:id=.b nid
 . subst q;have:m'=⟨w.heap.size,bx.ver,bx.sz,0,bx.ty⟩:=by simp [MPut] at J;exact J.symm
   subst this;have hc:∀ {p:Prop},0<(0:Nat)->p:=fun h=>absurd h (by simp)
   exact ⟨bx,hH,rfl,rfl,xbO W,zQ _,by rw [hx];exact zQ _,fun x V=>by rw [hx] at V;simp at V,hc,hc,hc,hc⟩
 . have Y:M id=some m':=by simpa [MPut,q] using J
   obtain ⟨bx',g1,g2⟩:=hR.box id m' Y;exact ⟨bx',g1,g2.mono (fun _=>rfl) (fun _ _ _=>rfl) (zd _) (fun _ _ h=>h) g2.guard Q⟩
def xyX (hR:HR w A M B H) (hB:B<=w.heap.size) (hn:Free M nid) {o:Oper} {ρc:Operand->Value} {c:Call} {t tt:TypeId} {os ox:Operand} {xs xx r:AV} {nb:Option Box} (ho:o.op=.call c) (af:c.callee=.builtin .append)
  (aq:c.argTypes.toList=[t,tt]) (au:c.args.toList=[os,ox]) (hs:Rel w A M (ρc os) xs) (hx:Rel w A M (ρc ox) xx) (h:absAppE P H nid t tt xs xx=some (r,nb)) (hH:∀ bx,nb=some bx->∃ f,H[nid]?=some { bx with frz:=f }) :
  Gives P o ρc w A M B H nid r:=by
 unfold absAppE at h;split at h
 case h_2=>simp at h
 split at h
 case h_2=>simp at h
 rename_i ti ao;split at h
 case h_2=>simp at h
 rename_i e hd;split at h
 case h_2=>simp at h
 rename_i te V;split at h
 case h_2=>simp at h
 rename_i ys pm a0;split at h
 case isFalse=>simp at h
 rename_i aw;obtain ⟨ae,an,ar,O⟩:=aw;simp only [z6,zb] at h;obtain ⟨rfl,rfl⟩:=h;obtain ⟨f,ac⟩:=hH _ rfl;have hu:P.underlying t=some (.slice e):=by rw [xkc ao,hd]
 obtain ⟨i,z,aa,a6,az,ax,ad,a1,_⟩:=xba V;have ah:isC e=false:=xjw V;have hts':c.argTypes=#[t,tt]:=by apply Array.ext';simpa using aq
 have has':c.args=#[os,ox]:=by apply Array.ext';simpa using au
 have q:∀ v w',(Builtin.append_ #[t,tt] o.type #[ρc os,ρc ox]).run P w=.ok v w'->(execOp ρc o).run P w=.ok (.value v) w':=by
  intro v w' hv;simp [execOp,ho,resolve,af,hts',has',invoke,builtin,hv,Go.resolve]
 have Y:∃ a,ρc os=.slice a 0 0:=by
  generalize ρc os=v at hs;cases hs with|empt a=>exact ⟨a,rfl⟩
 obtain ⟨a,Y⟩:=Y;rw [Y] at q;rcases xmQ hR V ae hu (ty:=o.type) aa hx a0 with ⟨rfl,ap⟩|⟨a3,ay,news,Z,al,W⟩
 . obtain ⟨_,g2,g3,g4,g5⟩:=hR.virtAt hn ac rfl ah;exact ⟨.slice a 0 0,w,A,_,q _ _ (ap a 0 0 (zd _)),Below.refl _ _,g5,fun _ _=>Iff.rfl,g2,g3,.osl _ (.b nid) 0 0 0 _ g4 (zd _) rfl fun _=>⟨by simp,a,by simp,fun h=>by simp at h⟩⟩
 have a2:ys.length<=4611686018427387904:=ar;have ak:Rel w A M z te.zero:=by rw [a1];exact xcZ w A M z
 obtain ⟨a4,_⟩:=ak.cells (xaU O);have a5:=xaz O;have J:(Builtin.append_ #[t,tt] o.type #[.slice a 0 0,ρc ox]).run P w=.ok (.slice (some ⟨w.heap.size,0,none⟩) ys.length (grownCap w ys.length 0 e)) (w.drew.alloc (.cells (news.toArray++Builtin.zeroCells z.cells (grownCap w ys.length 0 e - ys.length)) e)):=by
  have R:=W i z aa az ax.symm;cases a with
  | none=>exact R.nil (by omega) (by rw [<-ad];omega)
  | some b =>
   have:=R.grow b 0 0 [] (by simp) (fun j u hj=>by simp at hj) (by omega) (by omega) (growslice_fits (by omega) (by rw [<-ad];simpa using an))
   simpa using this
 have Q:=grownCap_ge w ys.length 0 e;have aj:=grownCap_le_maxLen w ys.length 0 e (by unfold maxLen;omega)
 generalize hcap:grownCap w ys.length 0 e=cap at J Q aj;have ab:(Builtin.zeroCells z.cells (cap - ys.length)).size=(cap - ys.length)*te.sz:=by rw [size_zeroCells];congr 1;omega
 have am:=xkd (bx:=⟨0,te.sz,e,ys,f,pm⟩) (nid:=nid) (c:=news.toArray++Builtin.zeroCells z.cells (cap - ys.length)) (cap:=cap) hR.drew (by simpa using hB) hn ah ac aj
  (by rw [Array.size_append,List.size_toArray,Z,ab,<-Nat.add_mul];congr 1;omega) Q ay
  (fun i' j ai hj=>by
   have hk:i'*te.sz+j<ys.length*te.sz:=xdQ ai hj;have e1:(news.toArray++Builtin.zeroCells z.cells (cap - ys.length)).getD (i'*te.sz+j) undef=news.getD (i'*te.sz+j) undef:=by
    simp only [zu,Array.getElem?_append,List.size_toArray,Z,hk,if_true,List.getElem?_toArray,z7]
   rw [e1];exact (al _ _ ai hj).grow ⟨rfl,rfl,rfl,zd _,fun _ _=>rfl⟩)
 obtain ⟨s1,s2,s3,s4,s5⟩:=am;have ag:Below w.heap.size w (w.drew.alloc (.cells (news.toArray++Builtin.zeroCells z.cells (cap - ys.length)) e)):=((Below.refl _ _).drew).alloc (by simp) _
 exact ⟨_,_,_,_,q _ _ J,ag,s1,s2,s3,s4,.osl _ (.b nid) 0 0 ys.length _ s5 (zd _) rfl fun _=>⟨by simpa using Q,some ⟨w.heap.size,0,none⟩,by simp,fun _=>by simp⟩⟩
end
def xDc {P:Program} {w:World} {A:Nat->Prop} {M:Id->Option MB} {B:Nat} {H:List Box} {nid:Nat} {o:Oper} {ρc:Operand->Value} {e:TypeId} {v:Value} {x:AV} (hR:HR w A M B H) (hv:Rel w A M v x) (J:x.cells.all AV.one=true) (hp:x.pure=true)
  (Q:(execOp ρc o).run P w=.ok (.value (.pointer (some ⟨w.heap.size,0,none⟩))) (w.alloc (.cells v.cells e))):Gives P o ρc w A M B H nid (.eptr x.cells.length [x] 0 0):=by
 obtain ⟨h1,h2⟩:=hv.cells J;have q:=xfa w (.cells v.cells e);have V:¬ A w.heap.size:=fun h=>Nat.lt_irrefl _ (hR.lt _ h)
 have:=Rel.eptr (w:=w.alloc (.cells v.cells e)) (A:=A) (M:=M) w.heap.size 0 x.cells.length [x] 0 0 (fun _ j=>v.cells.getD j undef) V (by simp) (by simp)
  (fun y hy=>by simp only [zv] at hy;subst hy;simp only [AV.okElem,beq_self_eq_true,Bool.true_and];exact J)
  (fun i j hi hj=>by
   have O:i=0:=by simpa using hi
   subst O;have hj':j<v.cells.size:=by rw [h1];exact hj
   have hb:(w.alloc (.cells v.cells e)).heap[w.heap.size]?=some (.cells v.cells e):=heap_alloc_new w _;rw [Nat.zero_mul,zH];unfold World.cell?;simp only [hb];simp [hj'])
  (fun i j hi hj=>by
   have O:i=0:=by simpa using hi
   subst O;exact ((h2 j hj).pure (xeZ (xkC hp) j)).grow q)
 exact ⟨_,w.alloc (.cells v.cells e),A,M,Q,q,MExt.refl M,fun _ _=>Iff.rfl,⟨fun _ _=>rfl,fun _ h=>.inl h⟩,hR.grow q,by simpa using this⟩
def fopE (P:Program) (ρ:Operand->AV) (H:List Box) (nid:Nat) (op:Op):Option (AV×Option Box) :=
 match op with
 | .buildSlice t len parts=>match len,parts.toList with
  | 0,[]=>match xHW P t with
   | some ti=>match ti.d with
    | .slice e=>match xHW P e with
     | some _=>some (.empt,none)
     | none=>none
    | _=>none
   | none=>none
  | _,_=>none
 | .call c=>match c.callee with
  | .builtin b=>match b,c.argTypes.toList,c.args.toList with
   | .append,[t,t'],[s,x]=>absAppE P H nid t t' (ρ s) (ρ x)
   | _,_,_=>none
  | _=>none
 | .box _ x=>if (ρ x).cells.all AV.one=true/\(ρ x).pure=true then some (.eptr (ρ x).cells.length [ρ x] 0 0,none) else none
 | .lookup t m k c=>match absLookL P H t (ρ m) (ρ k) c with
  | some r=>some (r,none)
  | none=>match absLookR P H t (ρ m) (ρ k) c with
   | some r=>some (r,none)
   | none=>none
 | _=>none
def xB9 {P:Program} {ρ:Operand->AV} {H:List Box} {n n':Nat} {op:Op} {x:AV} (h:fopE P ρ H n op=some (x,none)):fopE P ρ H n' op=some (x,none):=by
 unfold fopE at h |-;split at h
 . exact h
 . split at h
   . split at h
     . exfalso;unfold absAppE at h;repeat' split at h
       all_goals simp at h
     . simp at h
   . simp at h
 . exact h
 . exact h
 . simp at h
def xzc {P:Program} {w:World} {A:Nat->Prop} {M:Id->Option MB} {B:Nat} {H:List Box} {nid:Nat} {ρ:Operand->AV} {ρc:Operand->Value} {o:Oper} {x:AV} {nb:Option Box} (hf:fopE P ρ H nid o.op=some (x,nb)) (hρ:∀ a,a∈o.op.operands.toList->Rel w A M (ρc a) (ρ a))
  (hR:HR w A M B H) (hB:B<=w.heap.size) (hn:Free M nid) (hH:∀ bx,nb=some bx->∃ f,H[nid]?=some { bx with frz:=f }):Gives P o ρc w A M B H nid x:=by
 unfold fopE at hf;split at hf
 . rename_i t len W ho;split at hf
   case h_2=>simp at hf
   rename_i q;split at hf
   case h_2=>simp at hf
   rename_i ti ac;split at hf
   case h_2=>simp at hf
   rename_i e hd;split at hf
   case h_2=>simp at hf
   rename_i te af;simp only [z6,zb] at hf;obtain ⟨rfl,rfl⟩:=hf;have aa:W=#[]:=by apply Array.ext';simpa using q
   subst aa;have ae:P.underlying t=some (.slice e):=by rw [xkc ac,hd]
   obtain ⟨i,z,ag,ai,ad,ah,_⟩:=xba af;have Z:(Instr.buildSlice t 0 #[]).run P w=.ok (.slice (some ⟨w.heap.size,0,none⟩) 0 0) (w.alloc (.cells #[] e)):=by
    simp [Instr.buildSlice,run_underlying ae,sizeOf,typeInfo,ag,Go.newRow,zeroValue,ad,Instr.fill,show Array.range 0=#[] from rfl]
   have O:=xfa w (.cells #[] e);refine ⟨.slice (some ⟨w.heap.size,0,none⟩) 0 0,w.alloc (.cells #[] e),A,M,?_,O,MExt.refl M,fun _ _=>Iff.rfl,⟨fun _ _=>rfl,fun _ h=>.inl h⟩,hR.grow O,.empt _⟩
   simp only [execOp,ho,List.map_toArray,zW,Array.map_empty,Sem.run_bind,Z,Result.andThen_ok,Sem.run_pure]
 . rename_i c ho;split at hf
   case h_2=>simp at hf
   rename_i b Q;split at hf
   . rename_i t t' s y ab V;have J:∀ a,a∈c.args.toList->Rel w A M (ρc a) (ρ a):=fun a ha=>hρ a (by simp [ho,Op.operands,Call.operands,Q];simpa using ha)
     exact xyX hR hB hn ho Q ab V (J s (by rw [V];simp)) (J y (by rw [V];simp)) hf hH
   . simp at hf
 . rename_i e a ho;split at hf
   case isFalse=>simp at hf
   rename_i hc;obtain ⟨Y,hp⟩:=hc;simp only [z6,zb] at hf;obtain ⟨rfl,rfl⟩:=hf;exact xDc (e:=e) hR (hρ a (by simp [ho,Op.operands])) Y hp (by simp [execOp,ho,Instr.box,newVar,Go.newRow])
 . rename_i t m k c ho;split at hf
   . rename_i r hr;simp only [z6,zb] at hf;obtain ⟨rfl,rfl⟩:=hf;obtain ⟨v,h1,h2⟩:=xtS hR (hρ m (by simp [ho,Op.operands])) (hρ k (by simp [ho,Op.operands])) hr
     exact .stay hR ⟨v,by simp [execOp,ho,h1],h2⟩
   split at hf
   case h_2=>simp at hf
   rename_i r hr;simp only [z6,zb] at hf;obtain ⟨rfl,rfl⟩:=hf;obtain ⟨v,h1,h2⟩:=xtT hR (hρ m (by simp [ho,Op.operands])) (hρ k (by simp [ho,Op.operands])) hr
   exact .stay hR ⟨v,by simp [execOp,ho,h1],h2⟩
 . simp at hf
end Go.Sim
end
