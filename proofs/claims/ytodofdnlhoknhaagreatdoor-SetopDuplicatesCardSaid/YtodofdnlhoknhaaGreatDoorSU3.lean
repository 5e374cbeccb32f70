/- Part 3 of the proof of the law. -/
import Derived.Test.YtodofdnlhoknhaaGreatDoorSU2
import Derived.Laws.OwnMore
import Derived.Laws.Append
import Derived.Laws.AppendOwn
import Derived.Lib.AppendStr
import Derived.Tactics
import Derived.LoopN
set_option linter.defProp false
set_option linter.unusedVariables false
set_option linter.unusedSimpArgs false
set_option linter.unnecessarySimpa false
noncomputable section
namespace Go.Sim
open Go.RowKit
mutual
def AV.flat:AV->Bool
 | .agg cs=>AV.flats cs
 | .list _ _=>false
 | .eptr _ _ _ _=>false
 | .own _ _ _ _=>false
 | .osl _ _ _ _=>false
 | .func f cs=>match Nat.beq f vpF with
  | true=>false
  | false=>AV.flats cs
 | .tuple vs=>AV.flats vs
 | .top=>true
 | .bool _=>true
 | .int _ _=>true
 | .str _=>true
 | .nils=>true
 | .nilptr=>true
 | .nilfn=>true
 | .empt=>true
 | .gptr _=>true
 | .yld _=>true
def AV.flats:List AV->Bool
 | []=>true
 | x::xs=>AV.flat x&&AV.flats xs
end
def xvu:∀ xs:List AV,AV.flats xs=xs.all AV.flat
 | []=>by simp [AV.flats]
 | x::xs=>by simp [AV.flats,xvu xs]
def xpk {xs:List AV} (h:AV.flats xs=true) (i:Nat):(xs.getD i .top).flat=true:=by
 rw [xvu,zI] at h;by_cases hi:i<xs.length
 . simp only [z7,ze hi,zh];exact h _ (zo _)
 . simp [z7,zz (Nat.le_of_not_lt hi),AV.flat]
def Rel.flat {w w':World} {A A':Nat->Prop} {M M':Id->Option MB} {v:Value} {x:AV} (h:Rel w A M v x):x.flat=true->Rel w' A' M' v x:=by
 induction h generalizing M' with
 | top v=>intro _;exact .top v
 | bool b=>intro _;exact .bool b
 | int k n=>intro _;exact .int k n
 | str s=>intro _;exact .str s
 | agg vs cs h hr ih=>intro hp;exact .agg vs cs h fun i hi=>ih i hi (xpk (by simpa [AV.flat] using hp) i)
 | nils=>intro _;exact .nils
 | list0 a cap sz=>intro _;exact .list0 a cap sz
 | list b off cap sz xs val ha hb hne hcap hsz hc hr ih=>intro hp;simp [AV.flat] at hp
 | eptr b off sz xs i0 j0 val ha hb hi hsz hc hr ih=>intro hp;simp [AV.flat] at hp
 | own v id ver i j m hm hv h1 he=>intro hp;simp [AV.flat] at hp
 | osl v id ver off len m hm hv h1 he=>intro hp;simp [AV.flat] at hp
 | nilptr=>intro _;exact .nilptr
 | func f vs cs h hr hf ih =>
  intro hp;cases hv:Nat.beq f vpF with
  | true=>simp [AV.flat,hv] at hp
  | false=>exact .func f vs cs h (fun i hi=>ih i hi (xpk (by simpa [AV.flat,hv] using hp) i)) hf
 | vptr b off v0 x ha hb hc hr ih=>intro hp;exact absurd hp (by simp [AV.flat,vpF])
 | nilfn=>intro _;exact .nilfn
 | nmap=>intro _;exact .nmap
 | empt a=>intro _;exact .empt a
 | tuple vs cs h hr ih=>intro hp;exact .tuple vs cs h fun i hi=>ih i hi (xpk (by simpa [AV.flat] using hp) i)
 | gptr g=>intro _;exact .gptr g
 | yld g=>intro _;exact .yld g
def mapO (r:AV->Option AV):List AV->Option (List AV)
 | []=>some []
 | x::xs=>match r x,mapO r xs with
  | some y,some ys=>some (y::ys)
  | _,_=>none
def resE (r:AV->Option AV):AV->Option AV
 | .agg cs=>match mapO r cs with
  | some ds=>some (.agg ds)
  | none=>none
 | x=>r x
def mapE (pm:Bool) (r:AV->Option AV) (xs:List AV):Option (List AV):=if pm=true then some xs else mapO (resE r) xs
def AV.toList:AV->List AV
 | .list _ xs=>xs
 | _=>[]
def xIM (sz:Nat):AV->Bool
 | .list z _=>Nat.beq z sz
 | _=>false
def xIC (sz j:Nat) (q:List AV):Bool:=q.all fun x=>xIM sz (x.cells.getD j .top)
def rowsOk (bx:Box) (q:List AV):Bool:=match isC bx.ty with
 | false=>true
 | true=>bx.pm&&xIC (rowSz bx.ty) (xIc bx.ty) q
def resolve (H:List Box):Nat->AV->Option AV
 | 0,x=>if x.pure=true then some x else none
 | n+1,x=>if x.pure=true then some x else
  match x with
  | .agg cs=>match mapO (resolve H n) cs with|some ds=>some (.agg ds)|none=>none
  | .func f cs=>match Nat.beq f vpF with
   | true=>none
   | false=>match mapO (resolve H n) cs with|some ds=>some (.func f ds)|none=>none
  | .own id ver i j=>match xH9 H id ver with
   | some bx=>match mapE bx.pm (resolve H n) bx.xs with
    | some ys=>if i<bx.xs.length/\isC bx.ty=false then some (.eptr bx.sz ys i j) else none
    | none=>none
   | none=>none
  | .osl id ver off len=>match xH9 H id ver with
   | some bx=>match mapE bx.pm (resolve H n) ((bx.xs.drop off).take len) with
    | some ys=>if off+len<=bx.xs.length/\rowsOk bx ((bx.xs.drop off).take len)=true then some (.list bx.sz ys) else none
    | none=>none
   | none=>none
  | _=>none
def reach (H:List Box):Nat->AV->List Nat
 | 0,_=>[]
 | n+1,x=>if x.pure=true then [] else
  match x with
  | .agg cs=>cs.flatMap (reach H n)
  | .func _ cs=>cs.flatMap (reach H n)
  | .own id _ _ _=>id.base::(match getB H id with|some bx=>if bx.pm=true then [] else bx.xs.flatMap fun (e:AV)=>e.cells.flatMap (reach H n)|none=>[])
  | .osl id _ off len=>id.base::(match getB H id with|some bx=>if bx.pm=true then [] else ((bx.xs.drop off).take len).flatMap fun (e:AV)=>e.cells.flatMap (reach H n)|none=>[])
  | _=>[]
def xbe {xs:List AV} {i:Nat} (hi:i<xs.length):xs.getD i .top∈xs:=by
 simp only [z7,ze hi,zh];exact zo _
def xpw {H:List Box} {n:Nat} {x:AV} (h:x.pure=true):reach H n x=[]:=by
 cases n with
 | zero=>rfl
 | succ n=>unfold reach;rw [if_pos h]
def xeu {r:AV->Option AV}:∀ {xs ys:List AV},mapO r xs=some ys->ys.length=xs.length/\∀ i,i<xs.length->r (xs.getD i .top)=some (ys.getD i .top)
 | [],ys,h=>by simp [mapO] at h;subst h;simp
 | x::xs,ys,h=>by
  unfold mapO at h;split at h
  . rename_i y zs h1 h2;cases h;obtain ⟨e1,e2⟩:=xeu h2;refine ⟨by simp [e1],fun i hi=>?_⟩
    cases i with
    | zero=>simpa using h1
    | succ i=>have:=e2 i (by simp at hi;omega);simpa using this
  . simp at h
def xAZ {r:AV->Option AV} {xs ys:List AV} (h:mapO r xs=some ys) {i:Nat} (hi:i<xs.length):r (xs.getD i .top)=some (ys.getD i .top):=(xeu h).2 i hi
def xzz {H:List Box} {n:Nat} {x y:AV} (h:resE (resolve H n) x=some y) (hx:x.cells.all AV.one=true) :
  y.cells.length=x.cells.length/\∀ j,j<x.cells.length->resolve H n (x.cells.getD j .top)=some (y.cells.getD j .top):=by
 have key:∀ x y:AV,x.cells=[x]->x.one=true->resolve H n x=some y->y.cells.length=x.cells.length/\∀ j,j<x.cells.length->resolve H n (x.cells.getD j .top)=some (y.cells.getD j .top):=by
  intro x y hc h1 hr;have hy:y.cells=[y]:=by
   cases n with
   | zero =>
    unfold resolve at hr;split at hr
    . cases hr;exact hc
    . simp at hr
   | succ n =>
    unfold resolve at hr;split at hr
    . cases hr;exact hc
    . split at hr<;>first
       | (simp [AV.one] at h1;done)
       | (simp at hr;done)
       | (
        split at hr
        . simp at hr
        . split at hr
          . cases hr;rfl
          . simp at hr)
       | (
        split at hr
        . cases hr;rfl
        . simp at hr)
       | (
        split at hr
        . split at hr
          . split at hr
            . cases hr;rfl
            . simp at hr
          . simp at hr
        . simp at hr)
  rw [hc,hy];refine ⟨rfl,fun j hj=>?_⟩
  have:j=0:=by simpa using hj
  subst this;exact hr
 cases x with
 | agg cs =>
  simp only [resE] at h;split at h
  . rename_i ds q;cases h;exact ⟨(xeu q).1,fun j hj=>xAZ q hj⟩
  . simp at h
 | top=>simp [AV.cells,AV.one] at hx
 | tuple vs=>simp [AV.cells,AV.one] at hx
 | _=>exact key _ _ rfl (by simpa [AV.cells] using hx) h
def xwM {H:List Box} {n:Nat} {x y:AV} (h:resolve H n x=some y) (hx:x.one=true):y.one=true:=by
 cases n with
 | zero =>
  unfold resolve at h;split at h
  . cases h;exact hx
  . simp at h
 | succ n =>
  unfold resolve at h;split at h
  . cases h;exact hx
  . split at h<;>first
     | (simp [AV.one] at hx;done)
     | (simp at h;done)
     | (
      split at h
      . simp at h
      . split at h
        . cases h;rfl
        . simp at h)
     | (
      split at h
      . cases h;rfl
      . simp at h)
     | (
      split at h
      . split at h
        . split at h
          . cases h;rfl
          . simp at h
        . simp at h
      . simp at h)
def xji {H:List Box} {n:Nat} {x:AV} (h:x.pure=true):resolve H n x=some x:=by
 cases n<;>simp [resolve,h]
def xsJ {H:List Box} {n sz:Nat} {pm:Bool} {xs ys:List AV} (h:mapE pm (resolve H n) xs=some ys) (q:∀ x,x∈xs->x.okElem sz=true) :
  ys.length=xs.length/\(∀ y,y∈ys->y.okElem sz=true)/\(pm=true->ys=xs)/\(¬ pm=true->∀ i j,i<xs.length->j<sz->resolve H n ((xs.getD i .top).cells.getD j .top)=some ((ys.getD i .top).cells.getD j .top)):=by
 unfold mapE at h;split at h
 . rename_i hp;cases h;exact ⟨rfl,q,fun _=>rfl,fun h=>absurd hp h⟩
 . rename_i O;obtain ⟨h1,h2⟩:=xeu h;have at_:∀ i,i<xs.length->xs.getD i .top∈xs:=fun i hi=>by
    simp only [z7,ze hi,zh];exact zo _
   have cell:∀ i,i<xs.length->(ys.getD i .top).cells.length=sz/\∀ j,j<sz->resolve H n ((xs.getD i .top).cells.getD j .top)=some ((ys.getD i .top).cells.getD j .top):=by
    intro i hi;have hk:=q _ (at_ i hi);obtain ⟨e1,e2⟩:=xzz (h2 i hi) (xbs hk);have hl:=xa3 hk;exact ⟨by omega,fun j hj=>e2 j (by omega)⟩
   refine ⟨h1,fun y hy=>?_,fun h=>absurd h O,fun _ i j hi hj=>(cell i hi).2 j hj⟩
   obtain ⟨i,hi,rfl⟩:=zp.1 hy;have hi':i<xs.length:=by omega
   obtain ⟨c1,c2⟩:=cell i hi';have e:ys.getD i .top=ys[i]:=by simp [z7,hi]
   rw [e] at c1 c2;simp only [AV.okElem,c1,beq_self_eq_true,Bool.true_and,zI];intro c hc;obtain ⟨j,hj,rfl⟩:=zp.1 hc;have hk:=xbs (q _ (at_ i hi'));have hl:=xa3 (q _ (at_ i hi'));have hj':j<sz:=by omega
   have h3:=c2 j hj';have e3:ys[i].cells.getD j .top=ys[i].cells[j]:=by simp [z7,hj]
   rw [e3] at h3;refine xwM h3 ?_;rw [zI] at hk;have J:j<(xs.getD i .top).cells.length:=by omega
   exact hk _ (xbe J)
section
variable {w : World} {A A' : Nat -> Prop} {M M' : Id -> Option MB} {B : Nat} {H : List Box}
def xBb {n:Nat} {id:Id} {e:AV} {bx:Box} (hb:getB H id=some bx) (q:¬ bx.pm=true) (he:e∈bx.xs) {c:AV} (hc:c∈e.cells) {k:Nat} (hk:k∈reach H n c) :
  k∈(match getB H id with|some bx=>if bx.pm=true then [] else bx.xs.flatMap fun (e:AV)=>e.cells.flatMap (reach H n)|none=>[]):=by
 simp only [hb,q,if_false];exact y5.2 ⟨e,he,y5.2 ⟨c,hc,hk⟩⟩
def xBc {n:Nat} {id:Id} {off len:Nat} {e:AV} {bx:Box} (hb:getB H id=some bx) (q:¬ bx.pm=true) (he:e∈(bx.xs.drop off).take len) {c:AV} (hc:c∈e.cells) {k:Nat} (hk:k∈reach H n c) :
  k∈(match getB H id with|some bx=>if bx.pm=true then [] else ((bx.xs.drop off).take len).flatMap fun (e:AV)=>e.cells.flatMap (reach H n)|none=>[]):=by
 simp only [hb,q,if_false];exact y5.2 ⟨e,he,y5.2 ⟨c,hc,hk⟩⟩
def xje {xs:List AV} {c:AV} (h:c∈xs):∃ i,i<xs.length/\xs.getD i .top=c:=by
 obtain ⟨i,hi,rfl⟩:=zp.1 h;exact ⟨i,hi,by simp [z7,hi]⟩
def xdB {H:List Box} {n:Nat} {b:Box} (h:H[n]?=some b):n<H.length:=by
 rcases zJ n H.length with h'|h'
 . exact h'
 . rw [zz h'] at h;simp at h
def xld {H H':List Box} {x:Id} (h:H[x.base]?=H'[x.base]?):getB H x=getB H' x:=by
 cases x with
 | b n=>exact h
 | r n i j=>simp only [Id.base] at h;simp only [getB,h]
def xmr {H:List Box} {n i j:Nat} {rb:Box} (h:getB H (.r n i j)=some rb):∃ bx:Box,H[n]?=some bx/\(isC bx.ty=false/\rb=tombB\/isC bx.ty=true/\xH7 bx.ty j=true/\bx.pm=true/\i<bx.xs.length/\rb=xIy bx ((bx.xs.getD i .top).cells.getD j .top)):=by
 simp only [getB] at h;split at h
 . rename_i bx hb;split at h
   . rename_i q;split at h
     . rename_i hc;simp only [z6] at h;exact ⟨bx,hb,.inr ⟨q,hc.1,hc.2.1,hc.2.2,h.symm⟩⟩
     . simp at h
   . rename_i q;simp only [z6] at h;exact ⟨bx,hb,.inl ⟨q,h.symm⟩⟩
 . simp at h
def xgi {H:List Box} {n i j:Nat} {rb bx:Box} (hb:H[n]?=some bx) (hC:isC bx.ty=true) (h:getB H (.r n i j)=some rb):xH7 bx.ty j=true/\bx.pm=true/\i<bx.xs.length/\rb=xIy bx ((bx.xs.getD i .top).cells.getD j .top):=by
 obtain ⟨q,h1,h2⟩:=xmr h;rw [hb] at h1;cases h1;rcases h2 with ⟨h2,_⟩|⟨_,h2⟩
 . rw [hC] at h2;cases h2
 . exact h2
def xdK {H:List Box} {n i j:Nat} {bx:Box} (hb:H[n]?=some bx) (hC:isC bx.ty=true) (hs:xH7 bx.ty j=true) (hp:bx.pm=true) (hi:i<bx.xs.length):getB H (.r n i j)=some (xIy bx ((bx.xs.getD i .top).cells.getD j .top)):=by
 simp only [getB,hb,hC];exact if_pos ⟨hs,hp,hi⟩
def xdV {H:List Box} {n i j:Nat} {bx:Box} (hb:H[n]?=some bx) (hC:isC bx.ty=false):getB H (.r n i j)=some tombB:=by
 simp only [getB,hb,hC]
def xfq {t:TypeId} {j:Nat} (h:xH7 t j=true):isC t=true:=by
 cases hc:isC t with
 | true=>rfl
 | false=>rw [xnE hc] at h;cases h
def xgq {sz:Nat} {x:AV} (h:xIM sz x=true):∃ ys,x=.list sz ys:=by
 cases x<;>first|(simp [xIM] at h;done)|skip
 rename_i z ys;exact ⟨ys,by rw [zg h]⟩
def xvx (hR:HR w A M B H) (hA:∀ b,b<w.heap.size->A' b->A b) {n i j sz:Nat} {ys:List AV} {v:Value} {bx:Box} (hb:H[n]?=some bx) (hC:isC bx.ty=true) (hx:(bx.xs.getD i .top).cells.getD j .top=.list sz ys)
  (h:Rel w A M v (xJa n i j (.list sz ys))) (O:∀ m,M (.r n i j)=some m->0<m.cap->¬ A' m.b):Rel w A' xIj v (.list sz ys):=by
 obtain ⟨m,hm,V,h1,he⟩:=Rel.osl_inv h;obtain ⟨rb,g1,g2⟩:=hR.box _ m hm;obtain ⟨g4,g5,g6,g7⟩:=xgi hb hC g1;rw [hx] at g7;subst g7;have hv:2*ys.length=m.ver:=g2.ver;obtain ⟨e1,a,rfl,e2⟩:=he hv;have hsz:sz=m.sz:=g2.sz;subst hsz;have J:isC (xIy bx (.list m.sz ys)).ty=false:=xcp _;simp only [rowLen,Nat.sub_zero,zH] at e1 e2 |-;by_cases hz:ys=[]
 . subst hz;exact .list0 _ _ _
 . have hl:0<ys.length:=List.length_pos_iff.2 hz;have q:0<m.cap:=by omega
   obtain ⟨c,c1,c2,c3⟩:=g2.cells q
   replace c1:=c1.plain (g2.nomap (xa6 J))
   have Q:=e2 q;subst Q;rw [Nat.zero_mul];refine .list m.b 0 m.cap m.sz ys (fun i j=>c.getD (i*m.sz+j) undef) (O m hm q) (g2.lt q) hz e1 g2.ok (fun i j hi hj=>?_) (fun i j hi hj=>?_)
   . have hk:i*m.sz+j<c.size:=by rw [c2];exact xeE (by omega) hj
     rw [zH];simp [World.cell?,c1,hk]
   . have h4:=c3 i j hi hj;rw [xa1 J,xbK J] at h4;exact h4.mono (fun _ _ _=>rfl) (zd _) hA (MExt.refl _)
def xdh (hR:HR w A M B H) (hA:∀ b,b<w.heap.size->A' b->A b):∀ (n:Nat) (v:Value) (x y:AV),Rel w A M v x->resolve H n x=some y ->
  (∀ id:Id,id.base∈reach H n x->∀ m,M id=some m->0<m.cap->¬ A' m.b)->Rel w A' xIj v y
 | 0,v,x,y,hx,h,_=>by
  unfold resolve at h;split at h
  . rename_i hp;cases h;exact (hx.mono (fun _ _ _=>rfl) (zd _) hA (MExt.refl M)).pure hp
  . simp at h
 | n+1,v,x,y,hx,h,hid=>by
  unfold resolve at h;unfold reach at hid;split at h
  . rename_i hp;cases h;exact (hx.mono (fun _ _ _=>rfl) (zd _) hA (MExt.refl M)).pure hp
  rename_i hp;simp only [hp,if_false] at hid;split at h
  . rename_i cs;split at h
    case h_2=>simp at h
    rename_i ds ad;cases h;obtain ⟨vs,rfl,hs,hr⟩:=hx.agg_inv;obtain ⟨e1,e2⟩:=xeu ad;exact .agg vs ds (by omega) fun i hi=>xdh hR hA n _ _ _ (hr i (by omega)) (e2 i (by omega)) fun k hk m hm=>hid k (y5.2 ⟨_,xbe (by omega),hk⟩) m hm
  . rename_i f cs;split at h
    . simp at h
    rename_i aj;split at h
    case h_2=>simp at h
    rename_i ds ad;cases h;obtain ⟨vs,rfl,hs,hr⟩:=hx.func_inv aj;obtain ⟨e1,e2⟩:=xeu ad;exact .func f vs ds (by omega) (fun i hi=>xdh hR hA n _ _ _ (hr i (by omega)) (e2 i (by omega)) fun k hk m hm=>hid k (y5.2 ⟨_,xbe (by omega),hk⟩) m hm) fun e=>by rw [aj] at e;cases e
  . rename_i id ver i j;split at h
    case h_2=>simp at h
    rename_i bx V;split at h
    case h_2=>simp at h
    rename_i ys ac;split at h
    case isFalse=>simp at h
    rename_i hi;obtain ⟨hi,Q⟩:=hi;cases h;obtain ⟨m,hm,q,rfl⟩:=xln hR hx V;have Y:=(xbi V).1;have J:0<m.cap:=by have:=q.fits;omega
    obtain ⟨c,h1,h2,h3⟩:=q.cells J
    replace h1:=h1.plain (q.nomap (xc7 V))
    obtain ⟨e1,e2,e0,e3⟩:=xsJ ac (fun x hx=>q.ok x hx)
    have hsz:=q.sz;have ae:∀ i j,i<bx.xs.length->j<m.sz->w.cell? ⟨m.b,i*m.sz+j,none⟩=some (c.getD (i*m.sz+j) undef):=by
     intro i j hi hj;have hk:i*m.sz+j<c.size:=by rw [h2];exact xeE (Nat.lt_of_lt_of_le hi q.fits) hj
     simp [World.cell?,h1,hk]
    have af:¬ A' m.b:=hid id (by simp) m hm J
    have:=Rel.eptr (w:=w) (A:=A') (M:=xIj) m.b 0 m.sz ys i j (fun i j=>c.getD (i*m.sz+j) undef) af (q.lt J) (by omega) e2
     (fun i j hi hj=>by rw [zH];exact ae i j (by omega) hj)
     (fun i j hi hj=>by
      have h4:=h3 i j (by omega) hj
      rw [xa1 Q,xbK Q] at h4;by_cases O:bx.pm=true
      . rw [e0 O];rw [O] at h4;exact h4.mono (fun _ _ _=>rfl) (zd _) hA (MExt.refl _)
      . refine xdh hR hA n _ _ _ h4.unmp (e3 O i j (by omega) hj) fun k hk m' Z=>?_
        refine hid k (List.mem_cons_of_mem _ (xBb Y O (xbe (show i<bx.xs.length by omega)) ?_ hk)) m' Z
        have hl:=xa3 (q.ok _ (xbe (show i<bx.xs.length by omega)))
        exact xbe (by omega))
    rw [zH] at this;rw [hsz];exact this
  . rename_i id ver off len;split at h
    case h_2=>simp at h
    rename_i bx V;split at h
    case h_2=>simp at h
    rename_i ys ac;split at h
    case isFalse=>simp at h
    rename_i ai;obtain ⟨ai,Q⟩:=ai;cases h;obtain ⟨m,a,hm,q,an,rfl,ha⟩:=xjh hR hx V;have Y:=(xbi V).1;have ah:∀ x,x∈(bx.xs.drop off).take len->x∈bx.xs:=fun x hx=>List.mem_of_mem_drop (List.mem_of_mem_take hx)
    obtain ⟨e1,e2,e0,e3⟩:=xsJ ac (fun x hx=>q.ok x (ah x hx))
    have ab:((bx.xs.drop off).take len).length=len:=by simp;omega
    have hg:∀ i,i<len->((bx.xs.drop off).take len).getD i .top=bx.xs.getD (off+i) .top:=fun i hi=>by
     simp [z7,List.getElem?_take,hi,List.getElem?_drop]
    have hsz:=q.sz;rw [ab] at e1;rw [hsz];by_cases hz:len=0
    . have:ys=[]:=zA (by omega)
      subst this;subst hz;exact .list0 _ _ _
    . have am:=ha (by omega);subst am
      have J:0<m.cap:=by omega
      obtain ⟨c,h1,h2,h3⟩:=q.cells J
      replace h1:=h1.plain (q.nomap (xc7 V))
      have af:¬ A' m.b:=hid id (by simp) m hm J
      have:=Rel.list (w:=w) (A:=A') (M:=xIj) m.b (off*m.sz) (m.cap - off) m.sz ys (fun i j=>c.getD ((off+i)*m.sz+j) undef) af (q.lt J) (by intro e;subst e;simp at e1;omega) (by omega) e2
       (fun i j hi hj=>by
        have hk:(off+i)*m.sz+j<c.size:=by rw [h2];exact xeE (by omega) hj
        rw [show off*m.sz+i*m.sz+j=(off+i)*m.sz+j by rw [Nat.add_mul]]
        simp [World.cell?,h1,hk])
       (fun i j hi hj=>by
        have h4:=h3 (off+i) j (by omega) hj
        cases W:xH7 bx.ty j with
        | true =>
         have hc:=xfq W;unfold rowsOk at Q;rw [hc] at Q;simp only [xIC,zf,zI] at Q;have hj':j=xIc bx.ty:=by unfold xH7 at W;rw [hc] at W;exact zg W
         obtain ⟨zs,aa⟩:=xgq (Q.2 _ (xbe (xs:=(bx.xs.drop off).take len) (i:=i) (by omega)))
         rw [hg i (by omega),<-hj'] at aa
         rw [e0 Q.1,hg i (by omega),aa]
         unfold xIu MV at h4;simp only [W] at h4;rw [aa] at h4;cases id with
         | b nn=>exact xvx hR hA Y hc aa h4 fun m' Z h0=>hid (.r nn (off+i) j) (by simp [Id.base]) m' Z h0
         | r nn i' j' =>
          obtain ⟨ao,_,⟨_,rfl⟩|⟨_,_,_,_,rfl⟩⟩:=xmr Y
          . cases hc
          . rw [xuw,xcp] at hc;cases hc
        | false =>
        have al:xIu id.base (off+i) j bx.ty ((bx.xs.getD (off+i) .top).cells.getD j .top)=(bx.xs.getD (off+i) .top).cells.getD j .top:=by unfold xIu;rw [W]
        have ak:MV M bx j=MP M bx.pm:=by unfold MV;rw [W]
        rw [al,ak] at h4;by_cases O:bx.pm=true
        . rw [e0 O,hg i (by omega)]
          rw [O] at h4;exact h4.mono (fun _ _ _=>rfl) (zd _) hA (MExt.refl _)
        . have h5:=e3 O i j (by rw [ab];omega) hj
          rw [hg i (by omega)] at h5
          refine xdh hR hA n _ _ _ h4.unmp h5 fun k hk m' Z=>?_
          have ag:bx.xs.getD (off+i) .top∈(bx.xs.drop off).take len:=by rw [<-hg i (by omega)];exact xbe (by omega)
          refine hid k (List.mem_cons_of_mem _ (xBc Y O ag ?_ hk)) m' Z;have hl:=xa3 (q.ok _ (xbe (show off+i<bx.xs.length by omega)))
          exact xbe (by omega))
      rw [e1] at this;exact this
  . simp at h
end
end Go.Sim
namespace Go.Sim
open Go.RowKit
def xII (H:List Box) (sz:Nat):AV->Option (List AV×Bool)
 | .nils=>some ([],true)
 | .list sz' xs=>if sz'=sz then some (xs,true) else none
 | .osl id ver off len=>match xH9 H id ver with
  | some bx=>if bx.sz=sz/\off+len<=bx.xs.length/\isC bx.ty=false then some ((bx.xs.drop off).take len,bx.pm) else none
  | none=>none
 | _=>none
def putCells (e:AV) (j n sz:Nat) (v:AV):AV:=if j=0/\n=sz then v else .agg (e.cells.take j++v.cells++e.cells.drop (j+n))
def absSrc (P:Program) (H:List Box) (t tt e:TypeId) (sz:Nat) (x:AV):Option (List AV×Bool) :=
 if t=tt then xII H sz x else
  match xH5 P tt,xH5 P e,x with
  | some tj,some te,.str s=>match tj.d,te.d with
   | .string,.int .u8=>if te.sz=1 then some (s.map fun (u:UInt8)=>.int .u8 u.toNat,true) else none
   | _,_=>none
  | _,_,_=>none
def absApp (H:List Box) (e:TypeId) (te:TI) (s:AV) (ys:List AV) (pm:Bool):Option (AV×List Box) :=
 match s with
 | .nils=>if 0<te.sz/\ys.length*te.bytes<=140737488355328/\ys.length<=xIV/\te.zero.okElem te.sz=true then some (.osl H.length 0 0 ys.length,H++[⟨0,te.sz,e,ys,false,pm⟩]) else none
 | .osl (.b id) ver off len=>match xH9 H id ver with
  | some bx=>if off=0/\len=bx.xs.length/\bx.frz=false/\bx.sz=te.sz/\bx.ty=e/\0<te.sz/\(len+ys.length)*te.bytes<=140737488355328/\len+ys.length<=xIV/\te.zero.okElem te.sz=true then
   some (.osl id (ver+1) 0 (len+ys.length),H.set id ⟨ver+1,te.sz,e,bx.xs++ys,false,bx.pm&&pm⟩) else none
  | none=>none
 | _=>none
def xI9 (P:Program) (H:List Box) (t tt:TypeId) (s x:AV):Option (AV×List Box) :=
 match xH5 P t with
 | some ti=>match ti.d with
  | .slice e=>match xH5 P e with
   | some te=>match absSrc P H t tt e te.sz x with
    | some (ys,pm)=>absApp H e te s ys pm
    | none=>none
   | none=>none
  | _=>none
 | none=>none
def absStore (P:Program) (H:List Box) (t:TypeId) (a v:AV):Option (List Box) :=
 match xH5 P t,a with
 | some ti,.own (.b id) ver i j=>match xH9 H id ver with
  | some bx=>match bx.xs[i]? with
   | some e=>if bx.frz=false/\v.okElem ti.sz=true/\j+ti.sz<=bx.sz/\isC bx.ty=false then some (H.set id ⟨ver,bx.sz,bx.ty,bx.xs.set i (putCells e j ti.sz bx.sz v),false,bx.pm&&v.pure⟩) else none
   | none=>none
  | none=>none
 | _,_=>none
def xiU (l:List AV):(AV.agg l).cells=l:=rfl
def xIY (l:List Value) (o:Nat) (vs:List Value):List Value:=l.take o++vs++l.drop (o+vs.length)
def xic {l:List Value} {o:Nat} {vs:List Value} (h:o+vs.length<=l.length) (k:Nat) :
  (xIY l o vs).getD k undef=if o<=k/\k<o+vs.length then vs.getD (k - o) undef else l.getD k undef:=by
 have h1:min o l.length=o:=by omega
 simp only [xIY,zw,z7,zP,zt,h1];by_cases hk:k<o
 . simp [hk,List.getElem?_take,show ¬ o<=k by omega]
 . by_cases q:k<o+vs.length
   . simp [hk,show k - o<vs.length by omega,q,show o<=k by omega]
   . simp only [hk,if_false,show ¬ (k - o<vs.length) by omega,q,and_false,List.getElem?_drop]
     congr 2;omega
def xkm {l:List Value} {o:Nat} {vs:List Value} (h:o+vs.length<=l.length):(xIY l o vs).length=l.length:=by
 simp [xIY];omega
section
variable {P : Program} {w : World} {A : Nat -> Prop} {M : Id -> Option MB} {B : Nat} {H : List Box}
def xfY (l:List Value) (k:Nat):l.toArray.getD k undef=l.getD k undef:=by simp [z7,zu]
def xeb (c:Array Value) (k:Nat):c.toList.getD k undef=c.getD k undef:=by simp [z7,zu]
def MSet (M:Id->Option MB) (id:Id) (m:MB):Id->Option MB:=fun i=>if i=id then some m else M i
def xnN {id:Id} {m m':MB} (hm:M id=some m) (h:m'=m\/m.ver<m'.ver):MExt M (MSet M id m'):=fun i m1 h1=>by
 by_cases hi:i=id
 . subst hi;rw [hm] at h1;cases h1;exact ⟨m',by simp [MSet],h⟩
 . exact ⟨m1,by simp [MSet,hi,h1],.inl rfl⟩
def Touch (w w':World) (M M':Id->Option MB):Prop :=
 (∀ b,b<w.heap.size->(∀ id m,M id=some m->0<m.cap->m.b≠b)->w'.heap[b]?=w.heap[b]?) /\
 ∀ id m',M' id=some m'->0<m'.cap->(∃ i m,M i=some m/\0<m.cap/\m'.b=m.b)\/w.heap.size<=m'.b
def Touch.of_new {w w':World} {M M':Id->Option MB} (hb:Below w.heap.size w w') (h:∀ id m,M' id=some m->M id=some m\/w.heap.size<=m.b):Touch w w' M M' :=
 ⟨fun b h _=>hb.block b h,fun id m' hm h0=>(h id m' hm).imp (fun h=>⟨id,m',h,h0,rfl⟩) (fun h=>h)⟩
def xcb (H:List Box) (n:Nat):getB H (.b n)=H[n]?:=rfl
def xkJ {id:Id} {bx:Box} (hb:getB H id=some bx):id.base<H.length:=by
 cases id with
 | b n=>rw [xcb] at hb;exact xdB hb
 | r n i j =>
  obtain ⟨q,h,_⟩:=xmr hb;exact xdB h
def xrh {id:Id} {bx:Box} {l:List Box} (hb:getB H id=some bx):getB (H++l) id=some bx:=by
 rw [<-hb];exact xld (zO (xkJ hb))
def xwA {n:Nat} {j:Id} {bx':Box} (h:j.base≠n):getB (H.set n bx') j=getB H j :=
 xld (by rw [zX (Ne.symm h)])
def xdU {n:Nat} {bx bx':Box} (hb:H[n]?=some bx) (J:isC bx.ty=false) (q:isC bx'.ty=false) {j:Id} (hne:j≠.b n):getB (H.set n bx') j=getB H j:=by
 by_cases hj:j.base=n
 . cases j with
   | b k=>exact absurd (by rw [<-hj];rfl) hne
   | r k i l =>
    simp only [Id.base] at hj;subst hj;rw [xdV hb J,xdV (zL (xdB hb)) q]
 . exact xwA hj
def xno (hR:HR w A M B H) {id:Nat} {m m':MB} {bx bx':Box} (q:0<m.cap) (hm:M (.b id)=some m) (hb:H[id]?=some bx) (O:BoxAt w A M B (.b id) m bx) (ab:isC bx.ty=false) (Q:isC bx'.ty=false) (ag:bx.frz=false) {c':Array Value}
  (e1:m'.b=m.b) (e2:m'.cap=m.cap) (e3:m'.sz=m.sz) (e4:m'.ty=m.ty) (e5:m'=m\/m.ver<m'.ver) (f1:bx'.ver=m'.ver) (f2:bx'.sz=m'.sz) (f3:bx'.ty=m'.ty) (f4:bx'.frz=false)
  (aa:bx'.xs.length<=m.cap) (af:∀ x,x∈bx'.xs->x.okElem m.sz=true) (hsz:c'.size=m.cap*m.sz)
  (hc:∀ i j,i<bx'.xs.length->j<m.sz->Rel w A (MP M bx'.pm) (c'.getD (i*m.sz+j) undef) ((bx'.xs.getD i .top).cells.getD j .top)) :
  HR (w.setRow m.b c') A (MSet M (.b id) m') B (H.set id bx')/\MExt M (MSet M (.b id) m')/\(∀ b,b<w.heap.size->¬ A b->(w.setRow m.b c').heap[b]?=w.heap[b]?)/\Below B w (w.setRow m.b c')/\Touch w (w.setRow m.b c') M (MSet M (.b id) m')/\A m.b:=by
 have Z:A m.b:=(O.guard q).1 ag;have W:MExt M (MSet M (.b id) m'):=xnN hm e5;have hs:(w.setRow m.b c').heap.size=w.heap.size:=by simp [World.setRow]
 have hw:∀ b,b<w.heap.size->¬ A b->(w.setRow m.b c').heap[b]?=w.heap[b]?:=fun b _ hb=>setRow_other w m.b b c' fun e=>hb (e▸Z)
 obtain ⟨c,h1,h2,h3⟩:=O.cells q;have ac:xH8 m.ty=false:=O.nomap (xa6 ab)
 replace h1:=h1.plain ac
 refine ⟨⟨?_,?_,fun b hb=>by rw [hs];exact hR.lt b hb⟩,W,hw,⟨rfl,rfl,rfl,by rw [hs];exact zd _,fun k hk=>setRow_other w m.b k c' fun e=>by have:=O.low q;omega⟩,⟨fun b _ hb=>setRow_other w m.b b c' fun e=>hb (.b id) m hm q e.symm,fun i m1 J _=>?_⟩,Z⟩
 . intro i m1 J;by_cases hi:i=.b id
   . subst hi;have:m1=m':=by simp [MSet] at J;exact J.symm
     subst this;refine ⟨bx',by rw [xcb,zL (xdB hb)],⟨f1,f2,by rw [xbS Q];exact f3,by rw [e2];exact O.capm,by rw [e2];exact aa,by rw [e3];exact af,fun _=>by rw [e1];exact O.low q,fun _=>by rw [e1,hs];exact O.lt q,fun _=>⟨c',.of (by rw [e4];exact ac) (by rw [e1,e4];exact setRow_heap w m.b c c' m.ty (0,0) h1),by rw [e2,e3];exact hsz,?_⟩,fun _=>⟨fun _=>by rw [e1];exact Z,fun _=>f4⟩⟩⟩
     intro i j hi hj;rw [e3] at hj |-;rw [xa1 Q,xbK Q];exact (hc i j hi hj).mono hw (by rw [hs];exact zd _) (fun b _ h=>h) (xq5 W _)
   . have ad:M i=some m1:=by simpa [MSet,hi] using J
     obtain ⟨ae,g1,g2⟩:=hR.box i m1 ad;have hne:0<m1.cap->m1.b≠m.b:=fun h0 e=>hi (hR.inj i (.b id) m1 m ad hm h0 q e)
     exact ⟨ae,by rw [xdU hb ab Q hi];exact g1,g2.mono (fun h0=>setRow_other w m.b m1.b c' (hne h0)) hw (by rw [hs];exact zd _) (fun b _ h=>h) g2.guard W⟩
 . intro i i' m1 m2 J Y c1 c2 he;by_cases hi:i=.b id<;>by_cases V:i'=.b id
   . rw [hi,V]
   . have g1:m1=m':=by simp [MSet,hi] at J;exact J.symm
     have g2:M i'=some m2:=by simpa [MSet,V] using Y
     rw [hi];exact hR.inj (.b id) i' m m2 hm g2 q c2 (by rw [<-he,g1,e1])
   . have g1:m2=m':=by simp [MSet,V] at Y;exact Y.symm
     have g2:M i=some m1:=by simpa [MSet,hi] using J
     rw [V];exact hR.inj i (.b id) m1 m g2 hm c1 q (by rw [he,g1,e1])
   . exact hR.inj i i' m1 m2 (by simpa [MSet,hi] using J) (by simpa [MSet,V] using Y) c1 c2 he
 . by_cases hi:i=.b id
   . have g1:m1=m':=by simp [MSet,hi] at J;exact J.symm
     exact .inl ⟨.b id,m,hm,q,by rw [g1,e1]⟩
   . rename_i h0;exact .inl ⟨i,m1,by simpa [MSet,hi] using J,h0,rfl⟩
def xAe (hR:HR w A M B H) {id:Nat} {m m':MB} {bx bx':Box} (Q:m.cap=0) (hm:M (.b id)=some m) (hb:H[id]?=some bx) (Z:isC bx.ty=false) (J:isC bx'.ty=false)
  (e2:m'.cap=m.cap) (e3:m'.sz=m.sz) (e5:m'=m\/m.ver<m'.ver) (f1:bx'.ver=m'.ver) (f2:bx'.sz=m'.sz) (f3:bx'.ty=m'.ty) (f5:bx'.xs=[]) :
  HR w A (MSet M (.b id) m') B (H.set id bx')/\MExt M (MSet M (.b id) m')/\Touch w w M (MSet M (.b id) m'):=by
 have O:MExt M (MSet M (.b id) m'):=xnN hm e5;have hc:∀ {p:Prop},0<m'.cap->p:=fun h=>absurd h (by omega)
 refine ⟨⟨?_,?_,hR.lt⟩,O,⟨fun _ _ _=>rfl,fun i m1 q h0=>?_⟩⟩
 . intro i m1 q;by_cases hi:i=.b id
   . subst hi;have:m1=m':=by simp [MSet] at q;exact q.symm
     subst this;exact ⟨bx',by rw [xcb,zL (xdB hb)],⟨f1,f2,by rw [xbS J];exact f3,by rw [e2,Q];exact zQ _,by rw [f5];exact zQ _,by rw [f5];simp,hc,hc,hc,hc⟩⟩
   . have aa:M i=some m1:=by simpa [MSet,hi] using q
     obtain ⟨Y,g1,g2⟩:=hR.box i m1 aa;exact ⟨Y,by rw [xdU hb Z J hi];exact g1,g2.mono (fun _=>rfl) (fun _ _ _=>rfl) (zd _) (fun b _ h=>h) g2.guard O⟩
 . intro i i' m1 m2 q V c1 c2 he;by_cases hi:i=.b id
   . have g1:m1=m':=by simp [MSet,hi] at q;exact q.symm
     rw [g1] at c1;exact hc c1
   . by_cases W:i'=.b id
     . have g1:m2=m':=by simp [MSet,W] at V;exact V.symm
       rw [g1] at c2;exact hc c2
     . exact hR.inj i i' m1 m2 (by simpa [MSet,hi] using q) (by simpa [MSet,W] using V) c1 c2 he
 . by_cases hi:i=.b id
   . have g1:m1=m':=by simp [MSet,hi] at q;exact q.symm
     rw [g1] at h0;exact hc h0
   . exact .inl ⟨i,m1,by simpa [MSet,hi] using q,h0,rfl⟩
def Writes (P:Program) (o:Oper) (ρc:Operand->Value) (w:World) (A:Nat->Prop) (M:Id->Option MB) (B:Nat) (x:AV) (H':List Box):Prop :=
 ∃ n w' A' M' v,(execOp ρc o).run P w=.ok n w'/\((n=.value v)\/(n=.skip/\v=undef))/\Below B w w'/\MExt M M'/\(∀ b,b<w.heap.size->(A' b↔A b))/\(∀ b,b<w.heap.size->¬ A b->w'.heap[b]?=w.heap[b]?)/\Touch w w' M M'/\HR w' A' M' B H'/\Rel w' A' M' v x
def xAg {v:Value} {x:AV} (h:Rel w A M v x) (hx:x.cells.all AV.one=true):∀ u,u∈v.cells.toList->u.oneCell'=true:=by
 intro u hu;obtain ⟨h1,h2⟩:=h.cells hx;obtain ⟨i,hi,rfl⟩:=zp.1 hu;have hi':i<x.cells.length:=by simp at hi;omega
 have:=h2 i hi';have e:v.cells.getD i undef=v.cells.toList[i]:=by simp at hi;simp [hi]
 rw [e] at this;refine this.oneCell ?_;rw [zI] at hx;exact hx _ (xbe hi')
def xwW (hR:HR w A M B H) {o:Oper} {ρc:Operand->Value} {t:TypeId} {oa ov:Operand} {xa xv:AV} {H':List Box} (ho:o.op=.store t oa ov) (ha:Rel w A M (ρc oa) xa) (hv:Rel w A M (ρc ov) xv) (h:absStore P H t xa xv=some H') :
  Writes P o ρc w A M B (.tuple []) H':=by
 unfold absStore at h;split at h
 case h_2=>simp at h
 rename_i ti id ver i j ax;split at h
 case h_2=>simp at h
 rename_i bx ag;split at h
 case h_2=>simp at h
 rename_i e he;split at h
 case isFalse=>simp at h
 rename_i am;obtain ⟨au,ak,a0,O⟩:=am;cases h;obtain ⟨m,hm,q,ao⟩:=xln hR ha ag;obtain ⟨ar,aq⟩:=xbi ag;have Q:0<m.cap:=by
  have:=q.fits;have:0<bx.xs.length:=List.length_pos_of_mem (List.mem_of_getElem? he);omega
 obtain ⟨c,h1,h2,h3⟩:=q.cells Q
 replace h1:=h1.plain (q.nomap (xa6 O))
 replace h3:∀ i j,i<bx.xs.length->j<m.sz->Rel w A (MP M bx.pm) (c.getD (i*m.sz+j) undef) ((bx.xs.getD i .top).cells.getD j .top):=fun i j hi hj=>by
  have:=h3 i j hi hj;rw [xa1 O,xbK O] at this;exact this
 have hty':bx.ty=m.ty:=by rw [<-q.ty,xbS O]
 have af:=xa3 ak;have J:=xbs ak;have ad:=xr2 hv J;have al:(ρc ov).cells.size=ti.sz:=by have:=ad.1;simp at this;omega
 have hi:i<bx.xs.length:=by
  rcases zJ i bx.xs.length with h'|h'
  . exact h'
  . simp [zz h'] at he
 have aw:bx.xs.getD i .top=e:=by simp [z7,he]
 have az:=xa3 (q.ok e (List.mem_of_getElem? he));have hsz:=q.sz;have an:i*m.sz+m.sz<=c.size:=by
  rw [h2];have:(i+1)*m.sz<=m.cap*m.sz:=Nat.mul_le_mul_right _ (Nat.le_trans hi q.fits);rw [Nat.add_mul,Nat.one_mul] at this;exact this
 have Z:i*m.sz+j+(ρc ov).cells.toList.length<=c.toList.length:=by simp;omega
 have V:(putCells e j ti.sz bx.sz xv).cells.length=m.sz/\(∀ k,k<m.sz->(putCells e j ti.sz bx.sz xv).cells.getD k .top=if j<=k/\k<j+ti.sz then xv.cells.getD (k - j) .top else e.cells.getD k .top)/\(putCells e j ti.sz bx.sz xv).cells.all AV.one=true:=by
  unfold putCells;split
  . rename_i hw;obtain ⟨rfl,hw⟩:=hw;exact ⟨by omega,fun k hk=>by rw [if_pos (by omega)];simp,J⟩
  . have aj:min j e.cells.length=j:=by omega
    refine ⟨by rw [xiU];simp;omega,fun k hk=>?_,?_⟩
    . simp only [xiU,zw,z7,zP,zt,aj];by_cases ab:k<j
      . simp [ab,List.getElem?_take,show ¬ j<=k by omega]
      . by_cases ai:k<j+ti.sz
        . simp [ab,af,show k - j<ti.sz by omega,ai,show j<=k by omega]
        . simp only [ab,if_false,af,show ¬ (k - j<ti.sz) by omega,ai,and_false,List.getElem?_drop]
          congr 2;omega
    . have h5:=xbs (q.ok e (List.mem_of_getElem? he));rw [zI] at h5 J;simp only [xiU,List.all_append,zf,zI];exact ⟨⟨fun x hx=>h5 x (List.mem_of_mem_take hx),J⟩,fun x hx=>h5 x (List.mem_of_mem_drop hx)⟩
 have ah:=run_storeCells_at P m.b (i*m.sz+j) m.ty (ρc ov).cells.toList 0 c w h1 (by simp;omega) (xAg hv J)
 simp only [Nat.add_zero] at ah;obtain ⟨g1,g2,g3,g4,gt,g5⟩:=xno (m':=m) (bx':=⟨ver,bx.sz,bx.ty,bx.xs.set i (putCells e j ti.sz bx.sz xv),false,bx.pm&&xv.pure⟩) hR Q hm ar q O O au (c':=(xIY c.toList (i*m.sz+j) (ρc ov).cells.toList).toArray) rfl rfl rfl rfl (.inl rfl)
  (by rw [<-q.ver,<-aq]) hsz hty' rfl (by simpa using q.fits)
  (fun x hx=>by
   rcases List.mem_or_eq_of_mem_set hx with hx|rfl
   . exact q.ok x hx
   . simp only [AV.okElem,V.1,beq_self_eq_true,Bool.true_and];exact V.2.2)
  (by have:=xkm Z;simp at this |-;omega)
  (fun i' j' Y W=>by
   simp at Y;rw [xfY,xic Z];have ae:(ρc ov).cells.toList.length=ti.sz:=by simpa using al
   by_cases ac:i'=i
   . subst ac;have e1:(bx.xs.set i' (putCells e j ti.sz bx.sz xv)).getD i' .top=putCells e j ti.sz bx.sz xv:=by simp [z7,Y]
     rw [e1,V.2.1 j' W,ae];by_cases aa:j<=j'/\j'<j+ti.sz
     . rw [if_pos (by omega),if_pos aa,show i'*m.sz+j' - (i'*m.sz+j)=j' - j by omega]
       exact (ad.2 _ (by omega)).mp fun hp=>xfC (xlo (zf _ _▸hp).2) _
     . rw [if_neg (by omega),if_neg aa,xeb]
       have:=h3 i' j' Y W;rw [aw] at this;exact this.mp_and
   . have e1:(bx.xs.set i (putCells e j ti.sz bx.sz xv)).getD i' .top=bx.xs.getD i' .top:=by simp [z7,List.getElem?_set,show ¬ i=i' from fun h=>ac h.symm]
     rw [e1,ae,if_neg,xeb]
     . exact (h3 i' j' Y W).mp_and
     . intro aa;rcases zJ i' i with ap|ay
       . have:i'*m.sz+j'<i*m.sz:=xeE ap W;omega
       . have h6:(i+1)*m.sz<=i'*m.sz:=Nat.mul_le_mul_right _ (by omega)
         rw [Nat.add_mul,Nat.one_mul] at h6;omega)
 refine ⟨.skip,_,A,_,undef,?_,.inr ⟨rfl,rfl⟩,g4,g2,fun _ _=>Iff.rfl,g3,gt,g1,.tuple #[] [] rfl (by simp)⟩
 simp only [execOp,ho,ao,Instr.storeAt,Instr.sureAddr,storeVar,Sem.run_bind,Sem.run_pure,Result.andThen_ok,xdD ax,al,ne_eq,not_true,if_false];rw [ah];rfl
end
end Go.Sim
namespace Go.Sim
open Go.RowKit
section
variable {P : Program} {w : World} {A : Nat -> Prop} {M : Id -> Option MB} {B : Nat} {H : List Box}
def xtl (hR:HR w A M B H) {sz:Nat} {v:Value} {x:AV} {ys:List AV} {pm:Bool} (hx:Rel w A M v x) (h:xII H sz x=some (ys,pm)) :
  (ys=[]/\∃ a c,v=.slice a 0 c)\/∃ b o c,v=.slice (some ⟨b,o,none⟩) ys.length c/\(∀ y,y∈ys->y.okElem sz=true) /\
   ∀ i j,i<ys.length->j<sz->∃ u,w.cell? ⟨b,o+(i*sz+j),none⟩=some u/\Rel w A (MP M pm) u ((ys.getD i .top).cells.getD j .top):=by
 unfold xII at h;split at h
 . simp only [z6,zb] at h;obtain ⟨rfl,rfl⟩:=h;cases hx;exact .inl ⟨rfl,none,0,rfl⟩
 . split at h
   case isFalse=>simp at h
   rename_i hs;subst hs;simp only [z6,zb] at h;obtain ⟨rfl,rfl⟩:=h;cases hx with
   | list0 a cap _=>exact .inl ⟨rfl,a,cap,rfl⟩
   | list b off cap _ _ val ha hb hne hcap hsz hc hr =>
    exact .inr ⟨b,off,cap,rfl,hsz,fun i j hi hj=>⟨val i j,by rw [<-Nat.add_assoc];exact hc i j hi hj,hr i j hi hj⟩⟩
 . rename_i id ver off len;split at h
   case h_2=>simp at h
   rename_i bx V;split at h
   case isFalse=>simp at h
   rename_i W;obtain ⟨hsz,aa,O⟩:=W;simp only [z6,zb] at h;obtain ⟨rfl,rfl⟩:=h;obtain ⟨m,a,hm,q,Z,rfl,ha⟩:=xjh hR hx V;have Q:m.sz=sz:=by rw [<-q.sz,hsz]
   have J:((bx.xs.drop off).take len).length=len:=by simp;omega
   by_cases hz:len=0
   . subst hz;exact .inl ⟨by simp,a,_,rfl⟩
   . have Y:=ha (by omega);subst Y
     refine .inr ⟨m.b,off*m.sz,m.cap - off,by rw [J],fun y hy=>by rw [<-Q];exact q.ok y (List.mem_of_mem_drop (List.mem_of_mem_take hy)),fun i j hi hj=>?_⟩
     rw [J] at hi;rw [<-Q] at hj |-;have:=q.cell' (q.nomap (xa6 O)) (show off+i<bx.xs.length by omega) hj
     rw [xa1 O,xbK O] at this;rw [Nat.add_mul,Nat.add_assoc] at this;have hg:((bx.xs.drop off).take len).getD i .top=bx.xs.getD (off+i) .top:=by
      simp [z7,List.getElem?_take,hi,List.getElem?_drop]
     rwa [hg]
 . simp at h
def xor {t ty e:TypeId} {i:TypeInfo} (ht:P.underlying t=some (.slice e)) (hi:P.info? e=some i) (b:Option Addr) (len cap:Nat) (q:len<=cap) (a:Option Addr) (c:Nat) :
  (Builtin.append_ #[t,t] ty #[.slice b len cap,.slice a 0 c]).run P w=.ok (.slice b len cap) w:=by
 cases a<;>cases b<;>simp [Builtin.append_,run_underlying ht,sizeOf,typeInfo,hi,Builtin.lenOf,Builtin.firstCells,loadCells,loadCellsFrom,q,storeCells]
def xIv (w:World) (b o n:Nat):List Value:=(List.range n).map fun k=>(w.cell? ⟨b,o+k,none⟩).getD undef
def xhD (w:World) (b o n:Nat):(xIv w b o n).length=n:=by simp [xIv]
def xuW {b o n k:Nat} (hk:k<n):(xIv w b o n).getD k undef=(w.cell? ⟨b,o+k,none⟩).getD undef:=by
 simp [xIv,z7,hk]
def xtW {k n sz:Nat} (hk:k<n*sz):k / sz<n:=Nat.div_lt_of_lt_mul (by rwa [Nat.mul_comm])
section src
variable {ys : List AV} {sz b o : Nat} (hsz : 0 < sz) (hs : ∀ i j, i < ys.length -> j < sz -> ∃ u, w.cell? ⟨b, o + (i * sz + j), none⟩ = some u /\ Rel w A M u ((ys.getD i .top).cells.getD j .top))
include hsz hs
def xv9 {k:Nat} (hk:k<ys.length*sz):∃ u,w.cell? ⟨b,o+k,none⟩=some u/\Rel w A M u ((ys.getD (k / sz) .top).cells.getD (k % sz) .top):=by
 have:=hs (k / sz) (k % sz) (xtW hk) (Nat.mod_lt _ hsz);rwa [Nat.mul_comm,Nat.div_add_mod] at this
def xr9 (j:Nat) (u:Value) (h:(xIv w b o (ys.length*sz))[j]?=some u):w.cell? ((⟨b,o,none⟩:Addr).add j)=some u:=by
 have hj:j<ys.length*sz:=by
  rcases zJ j (ys.length*sz) with h'|h'
  . exact h'
  . rw [zz (by rw [xhD];exact h')] at h;simp at h
 obtain ⟨u',hu,_⟩:=xv9 hsz hs hj;rw [xfW,hu];simp [xIv,hj,hu] at h;rw [h]
omit hsz in
def xD2 {i j:Nat} (hi:i<ys.length) (hj:j<sz):Rel w A M ((xIv w b o (ys.length*sz)).getD (i*sz+j) undef) ((ys.getD i .top).cells.getD j .top):=by
 obtain ⟨u,hu,hr⟩:=hs i j hi hj;rw [xuW (xeE hi hj),hu];exact hr
def xD1 (q:∀ y,y∈ys->y.okElem sz=true):∀ u,u∈xIv w b o (ys.length*sz)->u.oneCell'=true:=by
 intro u hu;obtain ⟨k,hk,rfl⟩:=zp.1 hu;have hk':k<ys.length*sz:=by rwa [xhD] at hk
 obtain ⟨u',J,hr⟩:=xv9 hsz hs hk';have e:(xIv w b o (ys.length*sz))[k]=u':=by simp [xIv,J]
 rw [e];have hi:=xtW hk';have h1:=xbs (q _ (xbe hi));have hl:=xa3 (q _ (xbe hi));rw [zI] at h1;exact hr.oneCell (h1 _ (xbe (by rw [hl];exact Nat.mod_lt _ hsz)))
end src
def xsi {xs ys:List AV} {c:List Value} {sz:Nat} {news:List Value} (hn:news.length=ys.length*sz)
  (O:∀ i j,i<xs.length->j<sz->Rel w A M (c.getD (i*sz+j) undef) ((xs.getD i .top).cells.getD j .top))
  (Q:∀ i j,i<ys.length->j<sz->Rel w A M (news.getD (i*sz+j) undef) ((ys.getD i .top).cells.getD j .top))
  {c':List Value} (h1:∀ k,k<xs.length*sz->c'.getD k undef=c.getD k undef) (h2:∀ k,k<ys.length*sz->c'.getD (xs.length*sz+k) undef=news.getD k undef) :
  ∀ i j,i<(xs++ys).length->j<sz->Rel w A M (c'.getD (i*sz+j) undef) (((xs++ys).getD i .top).cells.getD j .top):=by
 intro i j hi hj;by_cases q:i<xs.length
 . have e:(xs++ys).getD i .top=xs.getD i .top:=by simp [z7,zP,q]
   rw [e,h1 _ (xeE q hj)];exact O i j q hj
 . have e:(xs++ys).getD i .top=ys.getD (i - xs.length) .top:=by simp [z7,zP,q]
   have J:i - xs.length<ys.length:=by simp at hi;omega
   have e2:i*sz+j=xs.length*sz+((i - xs.length)*sz+j):=by
    rw [<-Nat.add_assoc,<-Nat.add_mul,show xs.length+(i - xs.length)=i by omega]
   rw [e,e2,h2 _ (xeE J hj)];exact Q _ j J hj
def xpW {xs ys:List AV} {sz:Nat} (hx:∀ x,x∈xs->x.okElem sz=true) (hy:∀ x,x∈ys->x.okElem sz=true):∀ x,x∈xs++ys->x.okElem sz=true:=fun x q=>by
 rcases zG.1 q with h|h
 . exact hx x h
 . exact hy x h
def HR.drew (hR:HR w A M B H):HR w.drew A M B H:=hR.grow ⟨rfl,rfl,rfl,zd _,fun _ _=>rfl⟩
def HR.ext {H':List Box} (hR:HR w A M B H) (h:∀ n,n<H.length->(∃ id m,id.base=n/\M id=some m)->H'[n]?=H[n]?):HR w A M B H' :=
 ⟨fun id m hm=>by
  obtain ⟨bx,h1,h2⟩:=hR.box id m hm;exact ⟨bx,by rw [xld (h id.base (xkJ h1) ⟨id,m,rfl,hm⟩)];exact h1,h2⟩,hR.inj,hR.lt⟩
def HR.append (hR:HR w A M B H) (l:List Box):HR w A M B (H++l) :=
 hR.ext fun n hn _=>zO hn
def HR.none_of_base (hR:HR w A M B H) {id:Id} (h:H.length<=id.base):M id=none:=by
 cases hm:M id with
 | none=>rfl
 | some m =>
  obtain ⟨bx,h1,_⟩:=hR.box id m hm;have:=xkJ h1;omega
def HR.none_of_length (hR:HR w A M B H) {n:Nat} (h:H.length<=n):M (.b n)=none:=hR.none_of_base (id:=.b n) h
def HR.free_of_length (hR:HR w A M B H) {n:Nat} (h:H.length<=n):Free M n:=⟨hR.none_of_base (id:=.b n) h,fun i j=>hR.none_of_base (id:=.r n i j) h⟩
set_option maxHeartbeats 1000000 in
structure Mv (w:World) (A:Nat->Prop) (M:Id->Option MB) (w':World) (A':Nat->Prop) (M':Id->Option MB):Prop where
 size:w.heap.size<=w'.heap.size
 keep:∀ b,b<w.heap.size->¬ A b->w'.heap[b]?=w.heap[b]?
 less:∀ b,b<w.heap.size->A' b->A b
 more:∀ b,b<w.heap.size->A b->(∀ id m,M id=some m->0<m.cap->m.b≠b)->A' b
 ext:MExt M M'
 touch:Touch w w' M M'
def Mv.rel {w w':World} {A A':Nat->Prop} {M M':Id->Option MB} (h:Mv w A M w' A' M') {v:Value} {x:AV} (hr:Rel w A M v x):Rel w' A' M' v x :=
 hr.mono h.keep h.size h.less h.ext
def HR.virt {w:World} {A:Nat->Prop} {M:Id->Option MB} {B:Nat} {H:List Box} (hR:HR w A M B H) (sz:Nat) (ty:TypeId) (pm:Bool) :
  HR w A (MPut M H.length ⟨0,0,sz,0,rty ty⟩) B (H++[⟨0,sz,ty,[],false,pm⟩])/\Mv w A M w A (MPut M H.length ⟨0,0,sz,0,rty ty⟩)/\∀ a,Rel w A (MPut M H.length ⟨0,0,sz,0,rty ty⟩) (.slice a 0 0) (.osl H.length 0 0 0):=by
 have hn:Free M H.length:=hR.free_of_length (zd _);have O:MExt M (MPut M H.length ⟨0,0,sz,0,rty ty⟩):=xnM hn _;have q:∀ id m',MPut M H.length ⟨0,0,sz,0,rty ty⟩ id=some m'->0<m'.cap->M id=some m':=fun id m' hm h0=>by
  by_cases J:id=.b H.length
  . subst J;simp [MPut] at hm;subst hm;exact absurd h0 (by simp)
  . simpa [MPut,J] using hm
 refine ⟨⟨fun id m' Q=>?_,fun id id' m1 m2 h1 h2 c1 c2 he=>hR.inj id id' m1 m2 (q id m1 h1 c1) (q id' m2 h2 c2) c1 c2 he,hR.lt⟩,⟨zd _,fun _ _ _=>rfl,fun _ _ h=>h,fun _ _ h _=>h,O,⟨fun _ _ _=>rfl,fun id m' hm h0=>.inl ⟨id,m',q id m' hm h0,h0,rfl⟩⟩⟩,fun a=>?_⟩
 . by_cases J:id=.b H.length
   . subst J;have:m'=⟨0,0,sz,0,rty ty⟩:=by simp [MPut] at Q;exact Q.symm
     subst this;have hc:∀ {p:Prop},0<(0:Nat)->p:=fun h=>absurd h (by simp)
     exact ⟨⟨0,sz,ty,[],false,pm⟩,by simp [getB],rfl,rfl,rfl,zQ _,zQ _,fun x hx=>by simp at hx,hc,hc,hc,hc⟩
   . have V:M id=some m':=by simpa [MPut,J] using Q
     obtain ⟨bx,g1,g2⟩:=hR.box id m' V;exact ⟨bx,xrh g1,g2.mono (fun _=>rfl) (fun _ _ _=>rfl) (zd _) (fun _ _ h=>h) g2.guard O⟩
 . exact .osl _ H.length 0 0 0 ⟨0,0,sz,0,rty ty⟩ (by simp [MPut]) (zd _) rfl fun _=>⟨by simp,a,by simp,fun h=>by simp at h⟩
structure ARuns (P:Program) (w:World) (t tt ty e:TypeId) (i:TypeInfo) (z v:Value) (n:Nat) (news:List Value):Prop where
 nil:(n:Int)<=9223372036854775807->n*i.bytes<=281474976710656->(Builtin.append_ #[t,tt] ty #[.slice none 0 0,v]).run P w =
  .ok (.slice (some ⟨w.heap.size,0,none⟩) n (grownCap w n 0 e)) (w.drew.alloc (.cells (news.toArray++Builtin.zeroCells z.cells (grownCap w n 0 e - n)) e))
 grow:∀ (b:Addr) (sLen sCap:Nat) (olds:List Value),olds.length=sLen*i.size->(∀ j u,olds[j]?=some u->w.cell? (b.add j)=some u)->sCap<sLen+n->((sLen+n:Nat):Int)<=9223372036854775807 ->
  Builtin.nextslicecap (sLen+n) sCap*i.bytes<=281474976710656->(Builtin.append_ #[t,tt] ty #[.slice (some b) sLen sCap,v]).run P w =
   .ok (.slice (some ⟨w.heap.size,0,none⟩) (sLen+n) (grownCap w (sLen+n) sCap e))
    (w.drew.alloc (.cells (olds.toArray++news.toArray++Builtin.zeroCells z.cells (grownCap w (sLen+n) sCap e - (sLen+n))) e))
 room:∀ (g sLen sCap:Nat) (cur:Array Value),w.heap[g]?=some (.cells cur e (0,0))->sLen+n<=sCap->sLen*i.size+news.length<=cur.size ->
  (Builtin.append_ #[t,tt] ty #[.slice (some ⟨g,0,none⟩) sLen sCap,v]).run P w =
   .ok (.slice (some ⟨g,0,none⟩) (sLen+n) sCap) (w.setRow g (cur.toList.take (sLen*i.size)++news++cur.toList.drop (sLen*i.size+news.length)).toArray)
def ASrc (P:Program) (w:World) (A:Nat->Prop) (M:Id->Option MB) (t tt ty e:TypeId) (sz:Nat) (v:Value) (ys:List AV) (pm:Bool):Prop :=
 (ys=[]/\∀ b len cap,len<=cap->(Builtin.append_ #[t,tt] ty #[.slice b len cap,v]).run P w=.ok (.slice b len cap) w) \/
 (0<ys.length/\(∀ y,y∈ys->y.okElem sz=true)/\∃ news:List Value,news.length=ys.length*sz /\
  (∀ i j,i<ys.length->j<sz->Rel w A (MP M pm) (news.getD (i*sz+j) undef) ((ys.getD i .top).cells.getD j .top)) /\
  ∀ i z,P.info? e=some i->i.zero=some z->i.size=sz->ARuns P w t tt ty e i z v ys.length news)
def xyX (hR:HR w A M B H) {t ty e:TypeId} {sz:Nat} (J:0<sz) (hu:P.underlying t=some (.slice e)) {i0:TypeInfo} (W:P.info? e=some i0) {v:Value} {x:AV} {ys:List AV} {pm:Bool} (hx:Rel w A M v x) (h:xII H sz x=some (ys,pm)) :
  ASrc P w A M t t ty e sz v ys pm:=by
 rcases xtl hR hx h with ⟨he,a,cc,Q⟩|⟨b,off,cc,Q,Y,q⟩
 . subst Q;exact .inl ⟨he,fun b len cap V=>xor hu W b len cap V a cc⟩
 . subst Q;rcases Nat.eq_zero_or_pos ys.length with O|O
   . rw [O];exact .inl ⟨zA O,fun b' len cap V=>xor hu W b' len cap V _ cc⟩
   . refine .inr ⟨O,Y,xIv w b off (ys.length*sz),xhD _ _ _ _,fun i j hi hj=>xD2 q hi hj,fun i z hi hz hs=>⟨fun h1 h2=>?_,fun b' sLen sCap olds h1 h2 h3 h4 h5=>?_,fun g sLen sCap cur h1 h2 h3=>?_⟩⟩
     . exact run_append_nil (P:=P) w t ty e i z hu hi hz ⟨b,off,none⟩ ys.length cc _ (by rw [xhD,hs]) (xr9 J q) O h1 h2
     . exact run_append_grow (P:=P) w t ty e i z hu hi hz b' sLen sCap olds h1 h2 ⟨b,off,none⟩ ys.length cc _ (by rw [xhD,hs]) (xr9 J q) h3 h4 h5
     . exact run_append_room (P:=P) w t ty e i hu hi g sLen sCap cur h1 ⟨b,off,none⟩ ys.length cc _ (by rw [xhD,hs]) (xr9 J q) (xD1 J q Y) h2 h3
def xo6 (w:World) (t u ty e:TypeId) (i:TypeInfo) (z:Value) (ht:P.underlying t=some (.slice e)) (hu:P.underlying u=some .string) (hi:P.info? e=some i) (hz:i.zero=some z) (s:ByteArray)
  (h0:0<s.size) (J:(s.size:Int)<=9223372036854775807) (q:s.size*i.bytes<=281474976710656) :
  (Builtin.append_ #[t,u] ty #[.slice none 0 0,.string s]).run P w =
   .ok (.slice (some ⟨w.heap.size,0,none⟩) s.size (grownCap w s.size 0 e)) (w.drew.alloc (.cells ((Lib.strCells s).toArray++Builtin.zeroCells z.cells (grownCap w s.size 0 e - s.size)) e)):=by
 have hn:s.size≠0:=by omega
 have h63':¬ (9223372036854775807<(s.size:Int)):=by omega
 have h48':¬ (281474976710656<Builtin.nextslicecap s.size 0*i.bytes):=by rw [nextslicecap_zero h0];omega
 have hf:=Lib.run_firstCells_string (P:=P) w.drew i.size s;simp [Builtin.append_,run_underlying ht,run_underlying hu,sizeOf,typeInfo,zeroValue,hi,hz,Builtin.lenOf,hn,h63',h48',Question.forced,run_firstCells_none,hf,newRow,grownCap]
def xoL {t u ty e:TypeId} {i:TypeInfo} (ht:P.underlying t=some (.slice e)) (hu:P.underlying u=some .string) (hi:P.info? e=some i) (b:Option Addr) (len cap:Nat) (q:len<=cap) (s:ByteArray) (h0:s.size=0) :
  (Builtin.append_ #[t,u] ty #[.slice b len cap,.string s]).run P w=.ok (.slice b len cap) w:=by
 have hf:=Lib.run_firstCells_string (P:=P) w i.size s;rw [h0] at hf;have he:Lib.strCells s=[]:=zA (by rw [Lib.strCells_length,h0])
 rw [he] at hf;cases b<;>simp [Builtin.append_,run_underlying ht,run_underlying hu,sizeOf,typeInfo,hi,Builtin.lenOf,h0,q,hf,storeCells]
def xBF {t tt ty e:TypeId} (hu:P.underlying t=some (.slice e)) (J:P.underlying tt=some .string) {i0:TypeInfo} (Q:P.info? e=some i0) (s:ByteArray) :
  ASrc P w A M t tt ty e 1 (.string s) (s.data.toList.map fun (u:UInt8)=>.int .u8 u.toNat) true:=by
 have hsz:(s.data.toList.map fun (u:UInt8)=>AV.int .u8 u.toNat).length=s.size:=by rw [za,Array.length_toList];rfl
 rcases Nat.eq_zero_or_pos s.size with q|q
 . exact .inl ⟨zA (by rw [hsz,q]),fun b len cap V=>xoL hu J Q b len cap V s q⟩
 . refine .inr ⟨by rw [hsz];exact q,fun y hy=>?_,Lib.strCells s,by rw [Lib.strCells_length,hsz,Nat.mul_one],fun i j hi hj=>?_,fun i z hi hz hs=>⟨fun h1 h2=>?_,fun b' sLen sCap olds h1 h2 h3 h4 h5=>?_,fun g sLen sCap cur h1 h2 h3=>?_⟩⟩
   . obtain ⟨u,_,rfl⟩:=zK.1 hy;rfl
   . have O:j=0:=by omega
     subst O;rw [hsz] at hi;have hi':i<s.data.toList.length:=by rw [Array.length_toList];exact hi
     simp only [Nat.mul_one,Nat.add_zero,z7,List.getElem?_map,ze hi',Option.map_some,zh];have hc:(Lib.strCells s)[i]?=some (.int .u8 (s.data.toList[i].toNat:Int)):=by
      simp [Lib.strCells,List.getElem?_map,ze hi']
     rw [hc];exact .int _ _
   . rw [hsz] at h1 h2 |-;exact xo6 w t tt ty e i z hu J hi hz s q h1 h2
   . rw [hsz] at h3 h4 h5 |-;exact Lib.run_append_grow_string (P:=P) w t tt ty e i z hu J hi hz b' sLen sCap olds h1 h2 s h3 h4 h5
   . rw [hsz] at h2 |-;rw [hs,Nat.mul_one,Lib.strCells_length] at h3 |-;exact Lib.run_append_room_string (P:=P) w t tt ty e i hu J hi hs g sLen sCap cur h1 s h2 h3
def xnu (hR:HR w A M B H) {t tt ty e:TypeId} {te:TI} (Q:xH5 P e=some te) (O:0<te.sz) (hu:P.underlying t=some (.slice e)) {i0:TypeInfo} (J:P.info? e=some i0) {v:Value} {x:AV} {ys:List AV} {pm:Bool} (hx:Rel w A M v x) (h:absSrc P H t tt e te.sz x=some (ys,pm)) :
  ASrc P w A M t tt ty e te.sz v ys pm:=by
 unfold absSrc at h;split at h
 . rename_i Y;subst Y;exact xyX hR O hu J hx h
 . split at h
   case h_2=>simp at h
   rename_i tj aa s W q;split at h
   case h_2=>simp at h
   rename_i Z ab;split at h
   case isFalse=>simp at h
   rename_i hsz;rw [Q] at q;obtain rfl:=(z6 _ _).mp q;simp only [z6,zb] at h;obtain ⟨rfl,rfl⟩:=h;have V:P.underlying tt=some .string:=by rw [xk0 W,Z]
   cases hx with
   | str s =>
    rw [hsz];exact xBF hu V J s
def xws (hR:HR w A M B H) (hB:B<=w.heap.size) {o:Oper} {ρc:Operand->Value} {c:Call} {t tt e:TypeId} {te:TI} {os ox:Operand} {xs r:AV} {ys:List AV} {pm:Bool} {H':List Box} (ho:o.op=.call c) (b9:c.callee=.builtin .append)
  (cd:c.argTypes.toList=[t,tt]) (ch:c.args.toList=[os,ox]) (hs:Rel w A M (ρc os) xs) (b7:xH5 P e=some te) (hu:P.underlying t=some (.slice e))
  (aj:∀ v,v=ρc ox->ASrc P w A M t tt o.type e te.sz v ys pm) (h:absApp H e te xs ys pm=some (r,H')) :
  Writes P o ρc w A M B r H':=by
 unfold absApp at h;obtain ⟨i,z,ax,cn,a4,ah,a7,bn,_⟩:=xbQ b7;have af:isC e=false:=xkg b7;have hts':c.argTypes=#[t,tt]:=by apply Array.ext';simpa using cd
 have has':c.args=#[os,ox]:=by apply Array.ext';simpa using ch
 have Y:∀ v w',(Builtin.append_ #[t,tt] o.type #[ρc os,ρc ox]).run P w=.ok v w'->(execOp ρc o).run P w=.ok (.value v) w':=by
  intro v w' hv;simp [execOp,ho,resolve,b9,hts',has',invoke,builtin,hv,Go.resolve]
 replace aj:=aj _ rfl
 split at h
 ·
  have ac:ρc os=.slice none 0 0:=by
   generalize ρc os=v at hs;cases hs;rfl
  rw [ac] at Y;split at h
  case isFalse=>simp at h
  rename_i bf;obtain ⟨bu,a5,bg,ab⟩:=bf;simp only [z6,zb] at h;obtain ⟨rfl,rfl⟩:=h;rcases aj with ⟨rfl,ay⟩|⟨b3,ae,news,Q,aw,V⟩
  . obtain ⟨g1,g2,g3⟩:=hR.virt te.sz e pm;exact ⟨_,w,A,_,.slice none 0 0,Y _ _ (ay none 0 0 (zd _)),.inl rfl,Below.refl _ _,g2.ext,fun _ _=>Iff.rfl,fun _ _ _=>rfl,g2.touch,g1,g3 none⟩
  have cl:ys.length<=4611686018427387904:=bg;have a1:Rel w A M z te.zero:=by rw [bn];exact xdM w A M z
  obtain ⟨bz,_⟩:=a1.cells (xbs ab);have b0:=xa3 ab;have q:=(V i z ax a4 ah.symm).nil (by omega) (by rw [<-a7];omega)
  have ad:=grownCap_ge w ys.length 0 e;have ag:=grownCap_le_maxLen w ys.length 0 e (by unfold maxLen;omega)
  generalize hcap:grownCap w ys.length 0 e=cap at q ad ag;have cm:H.length<(H++[(⟨0,te.sz,e,ys,false,pm⟩:Box)]).length:=by simp
  have hR':HR w.drew A M B (H++[⟨0,te.sz,e,ys,false,pm⟩]):=hR.drew.append _;have ak:(Builtin.zeroCells z.cells (cap - ys.length)).size=(cap - ys.length)*te.sz:=by rw [size_zeroCells];congr 1;omega
  have cf:=xk1 (bx:=⟨0,te.sz,e,ys,false,pm⟩) (nid:=H.length) (c:=news.toArray++Builtin.zeroCells z.cells (cap - ys.length)) (cap:=cap) hR' (by simpa using hB) (hR.free_of_length (zd _)) af (by simp) ag
   (by rw [Array.size_append,List.size_toArray,Q,ak,<-Nat.add_mul];congr 1;omega) ad ae
   (fun i' j aa hj=>by
    have hk:i'*te.sz+j<ys.length*te.sz:=xeE aa hj;have e1:(news.toArray++Builtin.zeroCells z.cells (cap - ys.length)).getD (i'*te.sz+j) undef=news.getD (i'*te.sz+j) undef:=by
     simp only [zu,Array.getElem?_append,List.size_toArray,Q,hk,if_true,List.getElem?_toArray,z7]
    rw [e1];exact (aw _ _ aa hj).grow ⟨rfl,rfl,rfl,zd _,fun _ _=>rfl⟩)
  obtain ⟨s1,s2,s3,s4,s5⟩:=cf;have J:Below w.heap.size w (w.drew.alloc (.cells (news.toArray++Builtin.zeroCells z.cells (cap - ys.length)) e)):=((Below.refl _ _).drew).alloc (by simp) _
  exact ⟨_,_,_,_,_,Y _ _ q,.inl rfl,J.mono hB,s1,s2,fun b hb _=>J.block b hb,.of_new J (fun id m' ap=>by
   by_cases bv:id=.b H.length
   . subst bv;exact s3.2 m' ap
   . rw [s3.1 id bv] at ap;exact .inl ap),s4,.osl _ H.length 0 0 ys.length _ s5 (zd _) rfl fun _=>⟨by simpa using ad,some ⟨w.heap.size,0,none⟩,by simp,fun _=>by simp⟩⟩
 . rename_i id ver off len;split at h
   case h_2=>simp at h
   rename_i bx b6;split at h
   case isFalse=>simp at h
   rename_i bf;obtain ⟨rfl,am,b8,hsz,ca,bu,a5,bg,ab⟩:=bf;simp only [z6,zb] at h;obtain ⟨rfl,rfl⟩:=h;have ao:isC bx.ty=false:=by rw [ca];exact af
   obtain ⟨m,a,hm,W,bc,ac,ha⟩:=xjh hR hs b6;obtain ⟨a9,ce⟩:=xbi b6;simp only [Nat.sub_zero,zH] at ac bc;have ai:m.sz=te.sz:=by rw [<-W.sz,hsz]
   have be:m.ty=e:=by rw [<-W.ty,xbS ao,ca]
   have bk:m.ver=ver:=by rw [<-W.ver,ce]
   have ck:len+ys.length<=4611686018427387904:=bg;have a0:∀ (c1:Array Value) (cap:Nat),c1.size=cap*te.sz->len+ys.length<=cap->cap<=maxLen->(∀ y,y∈ys->y.okElem te.sz=true) ->
     (∀ i j,i<(bx.xs++ys).length->j<te.sz->Rel w A (MP M (bx.pm&&pm)) (c1.getD (i*te.sz+j) undef) (((bx.xs++ys).getD i .top).cells.getD j .top)) ->
     (Builtin.append_ #[t,tt] o.type #[ρc os,ρc ox]).run P w=.ok (.slice (some ⟨w.heap.size,0,none⟩) (len+ys.length) cap) (w.drew.alloc (.cells c1 e)) ->
     Writes P o ρc w A M B (.osl id (ver+1) 0 (len+ys.length)) (H.set id ⟨ver+1,te.sz,e,bx.xs++ys,false,bx.pm&&pm⟩):=by
    intro c1 cap az ad ag ae b2 q;have J:Below w.heap.size w (w.drew.alloc (.cells c1 e)):=((Below.refl _ _).drew).alloc (by simp) _
    let m1:MB:=⟨w.heap.size,ver+1,te.sz,cap,e⟩;have a3:MExt M (MSet M id m1):=xnN hm (.inr (by simp [m1,bk]))
    have hA:∀ b,b<w.heap.size->(APut A w.heap.size false b->A b):=fun b hb h=>by
     rcases h with h|⟨h,_⟩
     . exact h
     . omega
    have bb:∀ u x,Rel w A (MP M (bx.pm&&pm)) u x->Rel (w.drew.alloc (.cells c1 e)) (APut A w.heap.size false) (MP (MSet M id m1) (bx.pm&&pm)) u x:=fun u x hr=>hr.mono (fun b hb _=>J.block b hb) J.size hA (xq5 a3 _)
    refine ⟨_,_,APut A w.heap.size false,MSet M id m1,_,Y _ _ q,.inl rfl,J.mono hB,a3,fun b hb=>⟨hA b hb,.inl⟩,fun b hb _=>J.block b hb,.of_new J (fun i m' ap=>?_),⟨?_,?_,?_⟩,.osl _ id (ver+1) 0 (len+ys.length) m1 (by simp [MSet]) (zd _) rfl fun _=>⟨by simpa [m1] using ad,some ⟨w.heap.size,0,none⟩,by simp [m1],fun _=>by simp [m1]⟩⟩
    . by_cases ar:i=id
      . subst ar;have:m'=m1:=by simp [MSet] at ap;exact ap.symm
        subst this;exact .inr (zd _)
      . exact .inl (by simpa [MSet,ar] using ap)
    . intro i' m2 al;by_cases ar:i'=id
      . subst ar;have:m2=m1:=by simp [MSet] at al;exact al.symm
        subst this;refine ⟨_,by rw [xcb,zL (xdB a9)],⟨rfl,rfl,xbS af,ag,by simp [m1];omega,xpW (fun x hx=>by have:=W.ok x hx;rwa [ai] at this) ae,fun _=>by simpa [m1] using hB,fun _=>by simp [m1],fun _=>⟨c1,.of (xa6 af) (by simpa [m1] using heap_alloc_new w.drew (.cells c1 e)),by simpa [m1] using az,?_⟩,fun _=>⟨fun _=>.inr ⟨rfl,rfl⟩,fun _=>rfl⟩⟩⟩
        intro i j hi hj;rw [xa1 af,xbK af];exact bb _ _ (b2 i j hi hj)
      . have au:M i'=some m2:=by simpa [MSet,ar] using al
        obtain ⟨bi,g1,g2⟩:=hR.box i' m2 au;exact ⟨bi,by rw [xdU a9 ao af ar];exact g1,g2.mono (fun h0=>J.block _ (g2.lt h0)) (fun b hb _=>J.block b hb) J.size hA (fun h0=>⟨fun hf=>.inl ((g2.guard h0).1 hf),fun hf=>(g2.guard h0).2 (hA _ (g2.lt h0) hf)⟩) a3⟩
    . intro i' a8 m2 m3 al au cb bt he;by_cases aa:i'=id<;>by_cases aq:a8=id
      . rw [aa,aq]
      . exfalso;have g1:m2=m1:=by simp [MSet,aa] at al;exact al.symm
        have g2:M a8=some m3:=by simpa [MSet,aq] using au
        obtain ⟨bi,_,g3⟩:=hR.box a8 m3 g2;have:=g3.lt bt;rw [<-he,g1] at this;simp [m1] at this
      . exfalso;have g1:m3=m1:=by simp [MSet,aq] at au;exact au.symm
        have g2:M i'=some m2:=by simpa [MSet,aa] using al
        obtain ⟨bi,_,g3⟩:=hR.box i' m2 g2;have:=g3.lt cb;rw [he,g1] at this;simp [m1] at this
      . exact hR.inj i' a8 m2 m3 (by simpa [MSet,aa] using al) (by simpa [MSet,aq] using au) cb bt he
    . intro b hb;rcases hb with hb|⟨rfl,_⟩
      . have:=hR.lt b hb;simp;omega
      . simp
   rcases Nat.eq_zero_or_pos m.cap with O|O
   ·
    have b4:bx.xs=[]:=zA (by omega)
    have cc:len=0:=by omega
    subst cc;rw [O] at ac;rcases aj with ⟨rfl,ay⟩|⟨b3,ae,news,Q,aw,V⟩
    . obtain ⟨g1,g2,g3⟩:=xAe (m':=⟨m.b,ver+1,m.sz,m.cap,m.ty⟩) (bx':=⟨ver+1,te.sz,e,bx.xs++[],false,bx.pm&&pm⟩) hR O hm a9 ao af rfl rfl (.inr (by simp [bk])) rfl ai.symm be.symm (by simp [b4])
      exact ⟨_,_,A,_,_,Y _ _ (by rw [ac];simpa using ay a 0 0 (zd _)),.inl rfl,Below.refl _ _,g2,fun _ _=>Iff.rfl,fun _ _ _=>rfl,g3,g1,.osl _ id (ver+1) 0 0 ⟨m.b,ver+1,m.sz,m.cap,m.ty⟩ (by simp [MSet]) (zd _) rfl fun _=>⟨by simp,a,by simp [O],fun h=>by simp at h;omega⟩⟩
    . have a1:Rel w A M z te.zero:=by rw [bn];exact xdM w A M z
      obtain ⟨bz,_⟩:=a1.cells (xbs ab);have b0:=xa3 ab;have ad:=grownCap_ge w (0+ys.length) 0 e;have ag:=grownCap_le_maxLen w (0+ys.length) 0 e (by unfold maxLen;omega)
      have ak:(Builtin.zeroCells z.cells (grownCap w (0+ys.length) 0 e - ys.length)).size=(grownCap w (0+ys.length) 0 e - ys.length)*te.sz:=by rw [size_zeroCells];congr 1;omega
      refine a0 (news.toArray++Builtin.zeroCells z.cells (grownCap w (0+ys.length) 0 e - ys.length)) (grownCap w (0+ys.length) 0 e) (by rw [Array.size_append,List.size_toArray,Q,ak,<-Nat.add_mul];congr 1;omega) ad ag ae (fun i' j aa hj=>?_) ?_
      . rw [b4,zU] at aa |-;have hk:i'*te.sz+j<ys.length*te.sz:=xeE aa hj;have e1:(news.toArray++Builtin.zeroCells z.cells (grownCap w (0+ys.length) 0 e - ys.length)).getD (i'*te.sz+j) undef=news.getD (i'*te.sz+j) undef:=by
         simp only [zu,Array.getElem?_append,List.size_toArray,Q,hk,if_true,List.getElem?_toArray,z7]
        rw [e1];exact (aw _ _ aa hj).mp_and'
      . rw [ac];cases a with
        | none =>
         have q:=(V i z ax a4 ah.symm).nil (by omega) (by rw [<-a7];simp at a5;omega)
         simpa using q
        | some a =>
         have q:=(V i z ax a4 ah.symm).grow a 0 0 [] (by simp) (by simp) (by omega) (by omega) (growslice_fits (by omega) (by rw [<-a7];exact a5))
         simpa using q
   have ci:=ha O;subst ci;simp only [Nat.zero_mul] at ac;obtain ⟨c0,h1,h2,h3⟩:=W.cells O
   replace h1:=h1.plain (W.nomap (xa6 ao))
   replace h3:∀ i j,i<bx.xs.length->j<m.sz->Rel w A (MP M bx.pm) (c0.getD (i*m.sz+j) undef) ((bx.xs.getD i .top).cells.getD j .top):=fun i j hi hj=>by
    have:=h3 i j hi hj;rw [xa1 ao,xbK ao] at this;exact this
   have co:A m.b:=(W.guard O).1 b8;rw [ai] at h2 h3;rw [be] at h1;have an:∀ (news:List Value),news.length=ys.length*te.sz->(∀ y,y∈ys->y.okElem te.sz=true)->len+ys.length<=m.cap ->
     (∀ i j,i<ys.length->j<te.sz->Rel w A (MP M pm) (news.getD (i*te.sz+j) undef) ((ys.getD i .top).cells.getD j .top)) ->
     (Builtin.append_ #[t,tt] o.type #[ρc os,ρc ox]).run P w=.ok (.slice (some ⟨m.b,0,none⟩) (len+ys.length) m.cap) (w.setRow m.b (xIY c0.toList (len*te.sz) news).toArray) ->
     Writes P o ρc w A M B (.osl id (ver+1) 0 (len+ys.length)) (H.set id ⟨ver+1,te.sz,e,bx.xs++ys,false,bx.pm&&pm⟩):=by
    intro news Q ae Z bw q;have a2:len*te.sz+news.length<=c0.toList.length:=by
     have cj:c0.toList.length=m.cap*te.sz:=by simpa using h2
     rw [Q,<-Nat.add_mul,cj];exact Nat.mul_le_mul_right _ Z
    obtain ⟨g1,g2,g3,g4,gt,g5⟩:=xno (m':=⟨m.b,ver+1,m.sz,m.cap,m.ty⟩) (bx':=⟨ver+1,te.sz,e,bx.xs++ys,false,bx.pm&&pm⟩) hR O hm a9 W ao af b8 (c':=(xIY c0.toList (len*te.sz) news).toArray) rfl rfl rfl rfl (.inr (by simp [bk]))
     rfl ai.symm be.symm rfl (by simp;omega) (by rw [ai];exact xpW (fun x hx=>by rw [<-ai];exact W.ok x hx) ae)
     (by have:=xkm a2;simp at this |-;rw [this,h2,ai])
     (by
      rw [ai];intro i j hi hj;rw [xfY];refine xsi (M:=MP M (bx.pm&&pm)) (c:=c0.toList) Q (fun i j hi hj=>by rw [xeb];exact (h3 i j hi hj).mp_and) (fun i j hi hj=>(bw i j hi hj).mp_and') (fun k hk=>?_) (fun k hk=>?_) i j hi hj
      . rw [xic a2,if_neg (by rw [am];omega)]
      . rw [xic a2,if_pos (by rw [am,Q];omega),<-am,show len*te.sz+k - len*te.sz=k by omega])
    exact ⟨_,_,A,_,_,Y _ _ q,.inl rfl,g4,g2,fun _ _=>Iff.rfl,g3,gt,g1,.osl _ id (ver+1) 0 (len+ys.length) ⟨m.b,ver+1,m.sz,m.cap,m.ty⟩ (by simp [MSet]) (zd _) rfl fun _=>⟨by simpa using Z,some ⟨m.b,0,none⟩,by simp,fun _=>by simp⟩⟩
   have bj:len<=m.cap:=bc;rcases aj with ⟨rfl,ay⟩|⟨b3,ae,news,Q,aw,V⟩
   . refine an [] (by simp) (by simp) (by simpa using bj) (by simp) ?_
     have cg:(xIY c0.toList (len*te.sz) []).toArray=c0:=by simp [xIY]
     have bh:w.setRow m.b c0=w:=setRow_self w m.b c0 e (0,0) h1;rw [cg,bh,ac];simpa using ay (some ⟨m.b,0,none⟩) len m.cap bj
   . by_cases Z:len+ys.length<=m.cap
     . refine an news (Q) ae Z (fun i j hi hj=>aw _ _ hi hj) ?_
       have bq:len*i.size+news.length<=c0.size:=by
        rw [Q,<-ah,<-Nat.add_mul,h2];exact Nat.mul_le_mul_right _ Z
       have:=(V i z ax a4 ah.symm).room m.b len m.cap c0 h1 Z bq;rw [ac,this];rw [<-ah];rfl
     . have bo:∀ j u,(c0.toList.take (len*te.sz))[j]?=some u->w.cell? ((⟨m.b,0,none⟩:Addr).add j)=some u:=by
        intro j u ba;rw [List.getElem?_take] at ba;split at ba
        . rw [xfW,zH];simp [World.cell?,h1];simpa using ba
        . simp at ba
       have a6:(c0.toList.take (len*te.sz)).length=len*te.sz:=by
        simp only [zt,Array.length_toList,h2];have:len*te.sz<=m.cap*te.sz:=Nat.mul_le_mul_right _ bj;omega
       have q:=(V i z ax a4 ah.symm).grow ⟨m.b,0,none⟩ len m.cap (c0.toList.take (len*te.sz)) (by rw [a6,ah]) bo (by omega) (by omega) (growslice_fits (by omega) (by rw [<-a7];exact a5))
       have ad:=grownCap_ge w (len+ys.length) m.cap e;have ag:=grownCap_le_maxLen w (len+ys.length) m.cap e (by unfold maxLen;omega)
       generalize hcap:grownCap w (len+ys.length) m.cap e=cap at q ad ag;have a1:Rel w A M z te.zero:=by rw [bn];exact xdM w A M z
       obtain ⟨bz,_⟩:=a1.cells (xbs ab);have b0:=xa3 ab;have ak:(Builtin.zeroCells z.cells (cap - (len+ys.length))).size=(cap - (len+ys.length))*te.sz:=by rw [size_zeroCells];congr 1;omega
       generalize bp:(c0.toList.take (len*te.sz)).toArray++news.toArray++Builtin.zeroCells z.cells (cap - (len+ys.length))=c1 at q;have az:c1.size=cap*te.sz:=by
        rw [<-bp];simp only [Array.size_append,List.size_toArray,a6,Q,ak,<-Nat.add_mul];congr 1;omega
       have b1:∀ k,k<bx.xs.length*te.sz->c1.toList.getD k undef=c0.toList.getD k undef:=by
        intro k hk;rw [<-am] at hk;rw [<-bp];simp only [Array.toList_append,zw,z7,zP,a6,hk,if_true,List.getElem?_take]
       have b5:∀ k,k<ys.length*te.sz->c1.toList.getD (bx.xs.length*te.sz+k) undef=news.getD k undef:=by
        intro k hk;rw [<-am,<-bp];simp only [Array.toList_append,zw,z7,zP,a6,show ¬ len*te.sz+k<len*te.sz by omega,if_false,Q,show len*te.sz+k - len*te.sz=k by omega,hk,if_true]
       refine a0 c1 cap az ad ag ae (fun i j hi hj=>?_) (by rw [ac];exact q)
       rw [<-xeb];exact xsi (M:=MP M (bx.pm&&pm)) (c:=c0.toList) (Q) (fun i j hi hj=>by rw [xeb];exact (h3 i j hi hj).mp_and) (fun i j hi hj=>(aw _ _ hi hj).mp_and') b1 b5 i j hi hj
 . simp at h
def xqh (hR:HR w A M B H) (hB:B<=w.heap.size) {o:Oper} {ρc:Operand->Value} {c:Call} {t tt:TypeId} {os ox:Operand} {xs xx r:AV} {H':List Box} (ho:o.op=.call c) (O:c.callee=.builtin .append)
  (Z:c.argTypes.toList=[t,tt]) (Y:c.args.toList=[os,ox]) (hs:Rel w A M (ρc os) xs) (hx:Rel w A M (ρc ox) xx) (h:xI9 P H t tt xs xx=some (r,H')) :
  Writes P o ρc w A M B r H':=by
 unfold xI9 at h;split at h
 case h_2=>simp at h
 rename_i ti Q;split at h
 case h_2=>simp at h
 rename_i e hd;split at h
 case h_2=>simp at h
 rename_i te q;split at h
 case h_2=>simp at h
 rename_i ys pm V;have hu:P.underlying t=some (.slice e):=by rw [xk0 Q,hd]
 have J:0<te.sz:=by
  unfold absApp at h;split at h
  . split at h
    case isFalse=>simp at h
    rename_i hc;exact hc.1
  . split at h
    case h_2=>simp at h
    split at h
    case isFalse=>simp at h
    rename_i hc;exact hc.2.2.2.2.2.1
  . simp at h
 obtain ⟨i,z,W,_⟩:=xbQ q;exact xws hR hB ho O Z Y hs q hu (fun v hv=>by subst hv;exact xnu hR q J hu W hx V) h
def HR.rebuild (hR:HR w A M B H) {w':World} {A':Nat->Prop} {M':Id->Option MB} {H':List Box} (S:Nat->Prop)
  (hH:∀ k,¬ S k->k<H.length->H'[k]?=H[k]?) (hM:∀ j:Id,¬ S j.base->M' j=M j)
  (q:∀ (j:Id) m,¬ S j.base->M j=some m->0<m.cap->w'.heap[m.b]?=w.heap[m.b]?/\(A m.b->A' m.b))
  (hw:∀ b,b<w.heap.size->¬ A b->w'.heap[b]?=w.heap[b]?) (hs:w.heap.size<=w'.heap.size) (hA:∀ b,b<w.heap.size->A' b->A b) (V:MExt M M')
  (O:∀ (j:Id) m,S j.base->M' j=some m->∃ bx,getB H' j=some bx/\BoxAt w' A' M' B j m bx)
  (J:∀ (j:Id) m j' m',S j.base->M' j=some m->M' j'=some m'->0<m.cap->0<m'.cap->m.b=m'.b->j=j')
  (W:∀ b,A' b->b<w'.heap.size):HR w' A' M' B H':=by
 refine ⟨fun j m hm=>?_,fun j j' m m' h1 h2 c1 c2 he=>?_,W⟩
 . by_cases hj:S j.base
   . exact O j m hj hm
   . rw [hM j hj] at hm;obtain ⟨bx,g1,g2⟩:=hR.box j m hm;refine ⟨bx,by rw [xld (hH _ hj (xkJ g1))];exact g1,g2.mono (fun h0=>(q j m hj hm h0).1) hw hs hA (fun h0=>?_) V⟩
     rw [g2.guard h0];exact ⟨(q j m hj hm h0).2,hA _ (g2.lt h0)⟩
 . by_cases hj:S j.base
   . exact J j m j' m' hj h1 h2 c1 c2 he
   . by_cases Q:S j'.base
     . exact (J j' m' j m Q h2 h1 c2 c1 he.symm).symm
     . rw [hM j hj] at h1;rw [hM j' Q] at h2;exact hR.inj j j' m m' h1 h2 c1 c2 he
def xnQ {e v:AV} {j sz:Nat} (hj:j<sz) (hl:e.cells.length=sz) (hv:v.cells=[v]):(putCells e j 1 sz v).cells.length=sz/\∀ k,k<sz->(putCells e j 1 sz v).cells.getD k .top=if k=j then v else e.cells.getD k .top:=by
 unfold putCells;split
 . rename_i hw;obtain ⟨rfl,rfl⟩:=hw;refine ⟨by rw [hv];rfl,fun k hk=>?_⟩
   have:k=0:=by omega
   subst this;rw [if_pos rfl,hv];rfl
 . have O:min j e.cells.length=j:=by omega
   refine ⟨by rw [xiU,hv];simp;omega,fun k hk=>?_⟩
   simp only [xiU,hv,zw,z7,zP,zt,O];by_cases q:k<j
   . simp [q,List.getElem?_take,show ¬ k=j by omega]
   . by_cases J:k=j
     . subst J;simp
     . simp only [q,if_false,zF,List.length_nil,show ¬ (k - j<1) by omega,J,List.getElem?_drop]
       congr 2;omega
def xmf {e v:AV} {j sz:Nat} (hj:j<sz) (he:e.okElem sz=true) (hv:v.cells=[v]) (ho:v.one=true):(putCells e j 1 sz v).okElem sz=true:=by
 have hl:=xa3 he;obtain ⟨h1,h2⟩:=xnQ hj hl hv;have h3:=xbs he;simp only [AV.okElem,h1,beq_self_eq_true,Bool.true_and];rw [zI] at h3 |-;intro y hy;obtain ⟨k,hk,rfl⟩:=xje hy;rw [h1] at hk;rw [h2 k hk];split
 . exact ho
 . exact h3 _ (xbe (by omega))
def xIe (bx:Box) (ver i j:Nat) (v:AV):Box:=⟨ver,bx.sz,bx.ty,bx.xs.set i (putCells (bx.xs.getD i .top) j 1 bx.sz v),bx.frz,bx.pm⟩
def xqP {bx:Box} {ver i j:Nat} {v:AV} (hi:i<bx.xs.length) (hj:j<bx.sz) (hl:(bx.xs.getD i .top).cells.length=bx.sz) (hv:v.cells=[v]) {i' k:Nat} (hk:k<bx.sz) :
  ((xIe bx ver i j v).xs.getD i' .top).cells.getD k .top=if i'=i/\k=j then v else (bx.xs.getD i' .top).cells.getD k .top:=by
 have hp:=xnQ (e:=bx.xs.getD i .top) (v:=v) hj hl hv;unfold xIe;by_cases q:i'=i
 . subst q;have e1:(bx.xs.set i' (putCells (bx.xs.getD i' .top) j 1 bx.sz v)).getD i' .top=putCells (bx.xs.getD i' .top) j 1 bx.sz v:=by simp [z7,hi]
   rw [e1,hp.2 k hk];simp
 . have e1:(bx.xs.set i (putCells (bx.xs.getD i .top) j 1 bx.sz v)).getD i' .top=bx.xs.getD i' .top:=by simp [z7,List.getElem?_set,show ¬ i=i' from fun h=>q h.symm]
   rw [e1,if_neg (fun h=>q h.1)]
def HR.detach (hR:HR w A M B H) {n i j sz:Nat} {ys:List AV} {m:MB} {bx:Box} (hb:H[n]?=some bx) (au:xH7 bx.ty j=true) (hx:(bx.xs.getD i .top).cells.getD j .top=.list sz ys) (hj:j<bx.sz) (aq:(bx.xs.getD i .top).cells.length=bx.sz) (hm:M (.r n i j)=some m) :
  let M':Id->Option MB:=fun x=>if x=.b H.length then some ⟨m.b,0,m.sz,m.cap,m.ty⟩ else if x=.r n i j then some ⟨0,m.ver+1,0,0,m.ty⟩ else M x
  HR w A M' B (H.set n (xIe bx bx.ver i j (.int .i64 ys.length))++[⟨0,sz,rowTy bx.ty,ys,bx.frz,true⟩])/\Mv w A M w A M'/\∀ v,Rel w A M v (xJa n i j (.list sz ys))->Rel w A M' v (.osl H.length 0 0 ys.length):=by
 intro M';obtain ⟨rb,g1,g2⟩:=hR.box _ m hm;have ab:isC bx.ty=true:=xfq au;obtain ⟨g4,g5,g6,g7⟩:=xgi hb ab g1;rw [hx] at g7;subst g7;have ai:2*ys.length=m.ver:=g2.ver;have hsz:sz=m.sz:=g2.sz;have aj:rowTy bx.ty=m.ty:=by have:=g2.ty;rw [xuw,xbS (xcp _)] at this;exact this
 have hn:n<H.length:=xdB hb;have ad:=hR.free_of_length (n:=H.length) (zd _);have az:(Id.r n i j)≠.b H.length:=fun e=>by cases e
 have Y:M' (.b H.length)=some ⟨m.b,0,m.sz,m.cap,m.ty⟩:=by simp [M']
 have Z:M' (.r n i j)=some ⟨0,m.ver+1,0,0,m.ty⟩:=by simp [M']
 have J:∀ x:Id,x≠.b H.length->x≠.r n i j->M' x=M x:=fun x h1 h2=>by simp [M',h1,h2]
 have ak:∀ x m0,M x=some m0->x≠.b H.length:=fun x m0 h e=>by rw [e,ad.1] at h;cases h
 have Q:MExt M M':=fun x m0 h=>by
  by_cases q:x=.r n i j
  . subst q;rw [hm] at h;cases h;exact ⟨_,Z,.inr (Nat.lt_succ_self _)⟩
  . exact ⟨m0,by rw [J x (ak x m0 h) q];exact h,.inl rfl⟩
 have W:∀ x m',M' x=some m'->0<m'.cap->∃ y m0,M y=some m0/\m0.b=m'.b/\m0.cap=m'.cap/\(x=.b H.length/\y=.r n i j\/x=y/\y≠.r n i j):=fun x m' h h0=>by
  by_cases h1:x=.b H.length
  . subst h1;rw [Y] at h;cases h;exact ⟨_,m,hm,rfl,rfl,.inl ⟨rfl,rfl⟩⟩
  . by_cases h2:x=.r n i j
    . subst h2;rw [Z] at h;cases h;exact absurd h0 (by simp)
    . rw [J x h1 h2] at h;exact ⟨x,m',h,rfl,rfl,.inr ⟨rfl,h2⟩⟩
 have ah:∀ (x:Id) m1 x' m2,M' x=some m1->M' x'=some m2->0<m1.cap->0<m2.cap->m1.b=m2.b->x=x':=fun x m1 x' m2 h1 h2 c1 c2 he=>by
  obtain ⟨y,n1,a1,a2,a3,a4⟩:=W x m1 h1 c1;obtain ⟨y',n2,b1,b2,b3,b4⟩:=W x' m2 h2 c2;have:=hR.inj y y' n1 n2 a1 b1 (by omega) (by omega) (by rw [a2,b2,he])
  subst this;rcases a4 with ⟨rfl,e1⟩|⟨rfl,e1⟩<;>rcases b4 with ⟨rfl,e2⟩|⟨rfl,e2⟩
  . rfl
  . exact absurd e1 e2
  . exact absurd e2 e1
  . rfl
 have am:∀ {v:Value} {x:AV},Rel w A M v x->Rel w A M' v x:=fun h=>h.mono (fun _ _ _=>rfl) (zd _) (fun _ _ h=>h) Q
 have ag:(H.set n (xIe bx bx.ver i j (.int .i64 ys.length))++[⟨0,sz,rowTy bx.ty,ys,bx.frz,true⟩])[n]?=some (xIe bx bx.ver i j (.int .i64 ys.length)):=by
  rw [zO (by simpa using hn),zL hn]
 have O:(xIe bx bx.ver i j (.int .i64 ys.length)).xs.length=bx.xs.length:=by simp [xIe]
 have V:∀ i' k,k<bx.sz->((xIe bx bx.ver i j (.int .i64 ys.length)).xs.getD i' .top).cells.getD k .top=if i'=i/\k=j then .int .i64 ys.length else (bx.xs.getD i' .top).cells.getD k .top:=fun i' k hk=>xqP g6 hj aq rfl hk
 have af:∀ k,xH7 bx.ty k=true->k=j:=fun k hk=>by
  have hc:=xfq hk;unfold xH7 at hk g4;rw [hc] at hk g4;rw [zg hk,zg g4]
 refine ⟨hR.rebuild (fun k=>k=n\/k=H.length) (fun k hk an=>?_) (fun x q=>J x (fun e=>q (.inr (by rw [e];rfl))) fun e=>q (.inl (by rw [e];rfl))) (fun _ _ _ _ _=>⟨rfl,fun h=>h⟩) (fun _ _ _=>rfl) (zd _) (fun _ _ h=>h) Q (fun x m' hS q=>?_) (fun x m1 x' m2 _ h1 h2 c1 c2 he=>ah x m1 x' m2 h1 h2 c1 c2 he) hR.lt,
  ⟨zd _,fun _ _ _=>rfl,fun _ _ h=>h,fun _ _ h _=>h,Q,⟨fun _ _ _=>rfl,fun x m' h h0=>?_⟩⟩,fun v hv=>?_⟩
 . rw [zO (by simpa using an),zX (fun e=>hk (.inl e.symm))]
 . by_cases h1:x=.b H.length
   ·
    subst h1;rw [Y] at q;cases q;have ae:isC (rowTy bx.ty)=false:=xcp _;refine ⟨⟨0,sz,rowTy bx.ty,ys,bx.frz,true⟩,by rw [xcb,List.getElem?_append_right (by simp)];simp,rfl,hsz,by rw [xbS ae];exact aj,g2.capm,g2.fits,g2.ok,g2.low,g2.lt,fun h0=>?_,fun h0=>g2.guard h0⟩
    obtain ⟨c,c1,c2,c3⟩:=g2.cells h0;refine ⟨c,c1,c2,fun i' j' ac ap=>?_⟩
    have h4:=c3 i' j' ac ap;rw [xa1 (t:=(xIy bx (.list sz ys)).ty) (xcp _),xbK (bx:=xIy bx (.list sz ys)) (xcp _)] at h4;rw [xa1 ae,xbK ae];exact h4
   . by_cases h2:x=.r n i j
     ·
      subst h2;rw [Z] at q;cases q;have aw:∃ rb,getB (H.set n (xIe bx bx.ver i j (.int .i64 ys.length))++[⟨0,sz,rowTy bx.ty,ys,bx.frz,true⟩]) (.r n i j)=some rb/\rb=⟨2*ys.length+1,0,rowTy bx.ty,[],bx.frz,true⟩:=by
       refine ⟨_,?_,rfl⟩;rw [xdK ag ab g4 g5 (by rw [O];exact g6),V i j hj,if_pos ⟨rfl,rfl⟩]
       simp [xIy,rowLen,xIe]
      obtain ⟨rb,r1,rfl⟩:=aw;have hc:∀ {p:Prop},0<(0:Nat)->p:=fun h=>absurd h (by simp)
      exact ⟨_,r1,by simp only;omega,rfl,by rw [xbS (xcp _)];exact aj,zQ _,zQ _,fun x hx=>by simp at hx,hc,hc,hc,hc⟩
     . have aa:x.base=n:=by
        rcases hS with h|h
        . exact h
        . rw [J x h1 h2] at q;rw [hR.none_of_base (by rw [h];exact zd _)] at q;cases q
       rw [J x h1 h2] at q;obtain ⟨bx',k1,k2⟩:=hR.box x m' q;cases x with
       | r n' i' j' =>
        simp only [Id.base] at aa;subst aa;have k3:getB (H.set n' (xIe bx bx.ver i j (.int .i64 ys.length))++[⟨0,sz,rowTy bx.ty,ys,bx.frz,true⟩]) (.r n' i' j')=some bx':=by
         obtain ⟨e2,e3,e4,e5⟩:=xgi hb ab k1;have ao:=af j' e2;subst ao;have al:i'≠i:=fun e=>h2 (by rw [e])
         rw [xdK ag ab e2 e3 (by rw [O];exact e4),V i' j' hj,if_neg (fun e=>al e.1),e5]
         rfl
        exact ⟨bx',k3,k2.mono (fun _=>rfl) (fun _ _ _=>rfl) (zd _) (fun _ _ h=>h) k2.guard Q⟩
       | b n' =>
        simp only [Id.base] at aa;subst aa;rw [xcb,hb] at k1;cases k1;have k4:=k2.mono (w':=w) (fun _=>rfl) (fun _ _ _=>rfl) (zd _) (fun _ _ h=>h) k2.guard Q
        refine ⟨_,ag,k4.ver,k4.sz,k4.ty,k4.capm,by rw [O];exact k4.fits,fun y hy=>?_,k4.low,k4.lt,fun h0=>?_,k4.guard⟩
        . rcases List.mem_or_eq_of_mem_set hy with hy|rfl
          . exact k4.ok y hy
          . rw [<-k4.sz];exact xmf hj (by rw [k4.sz];exact k4.ok _ (xbe g6)) rfl rfl
        . obtain ⟨c,c1,c2,c3⟩:=k4.cells h0;refine ⟨c,by rw [O];exact c1,c2,fun i' k ac hk=>?_⟩
          rw [O] at ac;have h4:=c3 i' k ac hk;have ar:MV M' (xIe bx bx.ver i j (.int .i64 ys.length)) k=MV M' bx k:=rfl;have ax:xIu n' i' k (xIe bx bx.ver i j (.int .i64 ys.length)).ty (((xIe bx bx.ver i j (.int .i64 ys.length)).xs.getD i' .top).cells.getD k .top)=xIu n' i' k bx.ty ((bx.xs.getD i' .top).cells.getD k .top):=by
           rw [V i' k (by rw [k4.sz];exact hk)]
           split
           . rename_i ay;obtain ⟨rfl,rfl⟩:=ay;show xIu n' i' k bx.ty _=_;unfold xIu;rw [g4,hx];rfl
           . rfl
          simp only [Id.base];rw [ar,ax];exact h4
 . obtain ⟨y,m0,a1,a2,a3,_⟩:=W x m' h h0;exact .inl ⟨y,m0,a1,by omega,a2.symm⟩
 . obtain ⟨m1,b1,b2,b3,b4⟩:=Rel.osl_inv hv;rw [hm] at b1;cases b1;obtain ⟨e1,a,e2,e3⟩:=b4 ai;exact .osl v (.b H.length) 0 0 ys.length _ Y (zd _) b3 fun _=>⟨e1,a,e2,e3⟩
def deadLen:AV->Option Nat
 | .int _ l=>some l.toNat
 | _=>none
def absAdopt (P:Program) (H:List Box) (t:TypeId) (a v:AV):Option (List Box) :=
 match xH5 P t,a,v with
 | some ti,.own (.b n) ver i j,.osl (.b id) ver2 off len=>match xH9 H (.b n) ver,xH9 H (.b id) ver2 with
  | some bx,some b2=>match deadLen ((bx.xs.getD i .top).cells.getD j .top) with
   | some l0=>if ti.sz=1/\bx.frz=false/\xH7 bx.ty j=true/\bx.pm=true/\j<bx.sz/\i<bx.xs.length/\(bx.xs.getD i .top).cells.length=bx.sz /\
     b2.frz=false/\b2.pm=true/\isC b2.ty=false/\b2.ty=rowTy bx.ty/\off=0/\len=b2.xs.length/\l0<len then
    some ((H.set id ⟨ver2+1,b2.sz,b2.ty,[],false,true⟩).set n (xIe bx ver i j (.list b2.sz b2.xs))) else none
   | none=>none
  | _,_=>none
 | _,_,_=>none
def xwr (hR:HR w A M B H) {o:Oper} {ρc:Operand->Value} {t:TypeId} {oa ov:Operand} {xa xv:AV} {H':List Box} (ho:o.op=.store t oa ov) (ha:Rel w A M (ρc oa) xa) (hv:Rel w A M (ρc ov) xv) (h:absAdopt P H t xa xv=some H') :
  Writes P o ρc w A M B (.tuple []) H':=by
 unfold absAdopt at h;split at h
 case h_2=>simp at h
 rename_i ti n ver i j id V off len b7;split at h
 case h_2=>simp at h
 rename_i bx b2 aw aq;split at h
 case h_2=>simp at h
 rename_i l0 Z;split at h
 case isFalse=>simp at h
 rename_i bp;obtain ⟨bq,bc,W,b8,am,hi,bw,bi,be,ab,bh,rfl,rfl,cb⟩:=bp;cases h;obtain ⟨m,hm,q,bu⟩:=xln hR ha aw;obtain ⟨m2,a2,ao,O,bk,ba,cd⟩:=xjh hR hv aq;obtain ⟨aj,bg⟩:=xbi aw;obtain ⟨ai,ap⟩:=xbi aq;rw [xcb] at aj ai;have hne:id≠n:=fun e=>by
  subst e;rw [aj] at ai;cases ai;have:=xfq W;rw [ab] at this;cases this
 have Q:0<m.cap:=by have:=q.fits;omega
 obtain ⟨c,h1,h2,h3⟩:=q.cells Q;have bb:xH8 m.ty=false:=q.nomap (xc7 aw)
 replace h1:=h1.plain bb
 have hsz:=q.sz;have bz:j<m.sz:=by omega
 have au:(ρc ov).cells=#[ρc ov]:=by rw [ba];rfl
 have a6:(ρc ov).cells.size=1:=by rw [au];rfl
 have bt:i*m.sz+m.sz<=c.size:=by
  rw [h2];have:(i+1)*m.sz<=m.cap*m.sz:=Nat.mul_le_mul_right _ (Nat.le_trans hi q.fits);rw [Nat.add_mul,Nat.one_mul] at this;exact this
 have ar:i*m.sz+j+(ρc ov).cells.toList.length<=c.toList.length:=by simp [a6];omega
 have ax:=run_storeCells_at P m.b (i*m.sz+j) m.ty (ρc ov).cells.toList 0 c w h1 (by simp [a6];omega) (fun u hu=>by
  rw [au] at hu;simp only [zv] at hu;subst hu;rw [ba];rfl)
 simp only [Nat.add_zero] at ax;have b6:A m.b:=(q.guard Q).1 bc;generalize a0:(xIY c.toList (i*m.sz+j) (ρc ov).cells.toList).toArray=c' at ax;have bn:c'.size=m.cap*m.sz:=by rw [<-a0];have:=xkm ar;simp at this |-;omega
 have b9:∀ k,c'.getD k undef=if k=i*m.sz+j then ρc ov else c.getD k undef:=fun k=>by
  rw [<-a0,xfY,xic ar,au];by_cases hk:k=i*m.sz+j
  . subst hk;simp
  . rw [if_neg (by simp;omega),if_neg hk,xeb]
 have hs:(w.setRow m.b c').heap.size=w.heap.size:=by simp [World.setRow]
 have hw:∀ b,b<w.heap.size->¬ A b->(w.setRow m.b c').heap[b]?=w.heap[b]?:=fun b _ hb=>setRow_other w m.b b c' fun e=>hb (e▸b6)
 let M':Id->Option MB:=fun x=>if x=.b id then some ⟨m2.b,m2.ver+1,m2.sz,0,m2.ty⟩ else if x=.r n i j then some ⟨m2.b,2*b2.xs.length,m2.sz,m2.cap,m2.ty⟩ else M x
 have ak:M' (.b id)=some ⟨m2.b,m2.ver+1,m2.sz,0,m2.ty⟩:=by simp [M']
 have ag:M' (.r n i j)=some ⟨m2.b,2*b2.xs.length,m2.sz,m2.cap,m2.ty⟩:=by simp [M']
 have aa:∀ x:Id,x≠.b id->x≠.r n i j->M' x=M x:=fun x h1 h2=>by simp [M',h1,h2]
 have ca:∀ m0,M (.r n i j)=some m0->m0.cap=0/\m0.ver<2*b2.xs.length->m0.ver<2*b2.xs.length:=fun _ _ h=>h.2
 have a7:∀ m0,M (.r n i j)=some m0->m0.ver<2*b2.xs.length:=fun m0 h0=>by
  obtain ⟨rb,k1,k2⟩:=hR.box _ m0 h0;obtain ⟨k4,k5,k6,k7⟩:=xgi aj (xfq W) k1;have k8:=k2.ver;rw [k7] at k8;unfold deadLen at Z;split at Z
  . rename_i kk l hl;simp only [z6] at Z;rw [hl] at k8;simp only [xIy,rowLen] at k8;omega
  . simp at Z
 have Y:MExt M M':=fun x m0 h0=>by
  by_cases e1:x=.b id
  . subst e1;rw [ao] at h0;cases h0;exact ⟨_,ak,.inr (Nat.lt_succ_self _)⟩
  . by_cases e2:x=.r n i j
    . subst e2;exact ⟨_,ag,.inr (a7 m0 h0)⟩
    . exact ⟨m0,by rw [aa x e1 e2];exact h0,.inl rfl⟩
 have ah:∀ x m',M' x=some m'->0<m'.cap->∃ y m0,M y=some m0/\m0.b=m'.b/\m0.cap=m'.cap/\(x=.r n i j/\y=.b id\/x=y/\y≠.b id/\y≠.r n i j):=fun x m' h h0=>by
  by_cases e1:x=.b id
  . subst e1;rw [ak] at h;cases h;exact absurd h0 (by simp)
  . by_cases e2:x=.r n i j
    . subst e2;rw [ag] at h;cases h;exact ⟨_,m2,ao,rfl,rfl,.inl ⟨rfl,rfl⟩⟩
    . rw [aa x e1 e2] at h;exact ⟨x,m',h,rfl,rfl,.inr ⟨rfl,e1,e2⟩⟩
 have a9:∀ (x:Id) m1 x' m2,M' x=some m1->M' x'=some m2->0<m1.cap->0<m2.cap->m1.b=m2.b->x=x':=fun x m1 x' m2 h1 h2 c1 c2 he=>by
  obtain ⟨y,n1,a1,a2,a3,a4⟩:=ah x m1 h1 c1;obtain ⟨y',n2,b1,b2,b3,b4⟩:=ah x' m2 h2 c2;have:=hR.inj y y' n1 n2 a1 b1 (by omega) (by omega) (by rw [a2,b2,he])
  subst this;rcases a4 with ⟨rfl,e1⟩|⟨rfl,e1,_⟩<;>rcases b4 with ⟨rfl,e2⟩|⟨rfl,e2,_⟩
  . rfl
  . exact absurd e1 e2
  . exact absurd e2 e1
  . rfl
 have af:∀ (x:Id) m0,x≠.b n->M x=some m0->0<m0.cap->(w.setRow m.b c').heap[m0.b]?=w.heap[m0.b]?:=fun x m0 hx h0 c0=>setRow_other w m.b m0.b c' fun e=>hx (hR.inj x (.b n) m0 m h0 hm c0 Q e)
 have hn:n<H.length:=xdB aj;have bo:id<H.length:=xdB ai;have az:((H.set id ⟨V+1,b2.sz,b2.ty,[],false,true⟩).set n (xIe bx ver i j (.list b2.sz b2.xs)))[n]?=some (xIe bx ver i j (.list b2.sz b2.xs)):=zL (by simpa using hn)
 have bf:((H.set id ⟨V+1,b2.sz,b2.ty,[],false,true⟩).set n (xIe bx ver i j (.list b2.sz b2.xs)))[id]?=some ⟨V+1,b2.sz,b2.ty,[],false,true⟩:=by
  rw [zX (Ne.symm hne),zL bo]
 have ae:(xIe bx ver i j (.list b2.sz b2.xs)).xs.length=bx.xs.length:=by simp [xIe]
 have ac:∀ i' k,k<bx.sz->((xIe bx ver i j (.list b2.sz b2.xs)).xs.getD i' .top).cells.getD k .top=if i'=i/\k=j then .list b2.sz b2.xs else (bx.xs.getD i' .top).cells.getD k .top:=fun i' k hk=>xqP hi am bw rfl hk
 have ay:∀ k,xH7 bx.ty k=true->k=j:=fun k hk=>by
  have hc:=xfq hk;unfold xH7 at hk W;rw [hc] at hk W;rw [zg hk,zg W]
 have hR':HR (w.setRow m.b c') A M' B ((H.set id ⟨V+1,b2.sz,b2.ty,[],false,true⟩).set n (xIe bx ver i j (.list b2.sz b2.xs))):=by
  refine hR.rebuild (fun k=>k=n\/k=id) (fun k hk ce=>?_) (fun x J=>aa x (fun e=>J (.inr (by rw [e];rfl))) fun e=>J (.inl (by rw [e];rfl))) (fun x m0 J h0 c0=>⟨af x m0 (fun e=>J (.inl (by rw [e];rfl))) h0 c0,fun h=>h⟩) hw (by rw [hs];exact zd _) (fun _ _ h=>h) Y (fun x m' hS J=>?_) (fun x m1 x' m2 _ h1 h2 c1 c2 he=>a9 x m1 x' m2 h1 h2 c1 c2 he) (fun b hb=>by rw [hs];exact hR.lt b hb)
  . rw [zX (fun e=>hk (.inl e.symm)),zX (fun e=>hk (.inr e.symm))]
  . by_cases e1:x=.b id
    ·
     subst e1;rw [ak] at J;cases J;have hc:∀ {p:Prop},0<(0:Nat)->p:=fun h=>absurd h (by simp)
     exact ⟨(⟨V+1,b2.sz,b2.ty,[],false,true⟩:Box),bf,by simp only;rw [<-O.ver,ap],O.sz,O.ty,zQ _,zQ _,fun x hx=>by simp at hx,hc,hc,hc,hc⟩
    . by_cases e2:x=.r n i j
      ·
       subst e2;rw [ag] at J;cases J;have b5:getB ((H.set id ⟨V+1,b2.sz,b2.ty,[],false,true⟩).set n (xIe bx ver i j (.list b2.sz b2.xs))) (.r n i j)=some ⟨2*b2.xs.length,b2.sz,rowTy bx.ty,b2.xs,bx.frz,true⟩:=by
        rw [xdK az (xfq W) W b8 (by rw [ae];exact hi),ac i j am,if_pos ⟨rfl,rfl⟩]
        rfl
       have k4:=O.mono (w':=w.setRow m.b c') (A':=A) (M':=M') (fun h0=>af (.b id) m2 (fun e=>hne (by injection e)) ao h0) hw (by rw [hs];exact zd _) (fun _ _ h=>h) O.guard Y
       refine ⟨_,b5,rfl,k4.sz,by rw [<-bh];exact k4.ty,k4.capm,k4.fits,k4.ok,k4.low,k4.lt,fun h0=>?_,fun h0=>?_⟩
       . obtain ⟨cc,c1,c2,c3⟩:=k4.cells h0;refine ⟨cc,c1,c2,fun i' k an hk=>?_⟩
         have h4:=c3 i' k an hk;rw [xa1 ab,xbK ab,be] at h4;rw [xa1 (xcp _),xbK (bx:=⟨2*b2.xs.length,b2.sz,rowTy bx.ty,b2.xs,bx.frz,true⟩) (xcp _)];exact h4
       . have:=k4.guard h0;rw [bi] at this;rw [bc];exact this
      . by_cases ad:x.base=id
        ·
         rw [aa x e1 e2] at J;obtain ⟨bx',k1,k2⟩:=hR.box x m' J;cases x with
         | b k=>exact absurd (by rw [<-ad];rfl) e1
         | r k i' j' =>
          simp only [Id.base] at ad;subst ad;rw [xdV ai ab] at k1;cases k1;exact ⟨tombB,xdV bf ab,k2.mono (fun h0=>af _ m' (fun e=>by cases e) J h0) hw (by rw [hs];exact zd _) (fun _ _ h=>h) k2.guard Y⟩
        have al:x.base=n:=by
         rcases hS with h|h
         . exact h
         . exact absurd h ad
        rw [aa x e1 e2] at J;obtain ⟨bx',k1,k2⟩:=hR.box x m' J;cases x with
        | r n' i' j' =>
         simp only [Id.base] at al;subst al;have k3:getB ((H.set id ⟨V+1,b2.sz,b2.ty,[],false,true⟩).set n' (xIe bx ver i j (.list b2.sz b2.xs))) (.r n' i' j')=some bx':=by
          obtain ⟨a8,e3,e4,e5⟩:=xgi aj (xfq W) k1;have bv:=ay j' a8;subst bv;have bj:i'≠i:=fun e=>e2 (by rw [e])
          rw [xdK az (xfq W) a8 e3 (by rw [ae];exact e4),ac i' j' am,if_neg (fun e=>bj e.1),e5]
          rfl
         exact ⟨bx',k3,k2.mono (fun h0=>af _ m' (fun e=>by cases e) J h0) hw (by rw [hs];exact zd _) (fun _ _ h=>h) k2.guard Y⟩
        | b n' =>
         simp only [Id.base] at al;subst al;rw [hm] at J;cases J;refine ⟨xIe bx ver i j (.list b2.sz b2.xs),az,by rw [<-q.ver,bg];rfl,q.sz,q.ty,q.capm,by rw [ae];exact q.fits,fun y hy=>?_,q.low,fun h0=>by rw [hs];exact q.lt h0,fun h0=>?_,q.guard⟩
         . rcases List.mem_or_eq_of_mem_set hy with hy|rfl
           . exact q.ok y hy
           . rw [<-q.sz];exact xmf am (by rw [q.sz];exact q.ok _ (xbe hi)) rfl rfl
         . refine ⟨c',.of bb (setRow_heap w m.b c c' m.ty (0,0) h1),bn,fun i' k an hk=>?_⟩
           rw [ae] at an;have b0:MV M' (xIe bx ver i j (.list b2.sz b2.xs)) k=MV M' bx k:=rfl;show Rel _ _ (MV M' (xIe bx ver i j (.list b2.sz b2.xs)) k) _ (xIu n' i' k bx.ty _);rw [b0,ac i' k (by omega),b9]
           by_cases a5:i'=i/\k=j
           . obtain ⟨rfl,rfl⟩:=a5;rw [if_pos rfl,if_pos ⟨rfl,rfl⟩];unfold MV xIu;rw [W];obtain ⟨m3,q1,q2,q3,q4⟩:=Rel.osl_inv hv;rw [ao] at q1;cases q1;obtain ⟨q5,a,q6,q7⟩:=q4 (by rw [<-ap,O.ver])
             exact .osl _ (.r n' i' k) _ _ _ _ ag (zd _) q3 fun _=>⟨q5,a,q6,q7⟩
           . rw [if_neg a5,if_neg (fun e=>a5 (xDz hk bz e))]
             exact (h3 i' k an hk).mono hw (by rw [hs];exact zd _) (fun _ _ h=>h) (xtC Y bx k)
 refine ⟨.skip,w.setRow m.b c',A,M',undef,?_,.inr ⟨rfl,rfl⟩,⟨rfl,rfl,rfl,by rw [hs];exact zd _,fun k hk=>setRow_other w m.b k c' fun e=>by have:=q.low Q;omega⟩,Y,fun _ _=>Iff.rfl,hw,⟨fun b _ hb=>setRow_other w m.b b c' fun e=>hb (.b n) m hm Q e.symm,fun x m' h h0=>?_⟩,hR',.tuple #[] [] rfl (by simp)⟩
 . simp only [execOp,ho,bu,Instr.storeAt,Instr.sureAddr,storeVar,Sem.run_bind,Sem.run_pure,Result.andThen_ok,xdD b7,bq,a6,ne_eq,not_true,if_false];rw [ax,<-a0];rfl
 . obtain ⟨y,m0,a1,a2,a3,_⟩:=ah x m' h h0;exact .inl ⟨y,m0,a1,by omega,a2.symm⟩
def newRow (t:TypeId) (sz:Nat) (y:AV):AV:=putCells y (xIc t) 1 sz (.list (rowSz t) [])
def xme {t:TypeId} {sz:Nat} {y:AV} (hs:xIc t<sz) (hy:y.okElem sz=true) {k:Nat} (hk:k<sz):(newRow t sz y).cells.getD k .top=if k=xIc t then .list (rowSz t) [] else y.cells.getD k .top :=
 (xnQ hs (xa3 hy) rfl).2 k hk
def xns {t:TypeId} {k:Nat}:xH7 t k=true->k=xIc t:=fun h=>by
 have hc:=xfq h;unfold xH7 at h;rw [hc] at h;exact zg h
def HR.grown (hR:HR w A M B H) {n:Nat} {m m':MB} {bx:Box} {w':World} {A':Nat->Prop} {c':Array Value} {ys:List AV}
  (hm:M (.b n)=some m) (hb:H[n]?=some bx) (O:BoxAt w A M B (.b n) m bx) (ba:bx.frz=false) (hC:isC bx.ty=true) (a9:xH8 m.ty=false) (ar:bx.pm=true) (ae:xIc bx.ty<m.sz)
  (hw:∀ b,b<w.heap.size->¬ A b->w'.heap[b]?=w.heap[b]?) (hs:w.heap.size<=w'.heap.size) (hA:∀ b,b<w.heap.size->A' b->A b)
  (ab:∀ x m0,x≠.b n->M x=some m0->0<m0.cap->w'.heap[m0.b]?=w.heap[m0.b]?/\(A m0.b->A' m0.b))
  (e1:m'.ver=m.ver+1) (e2:m'.sz=m.sz) (e3:m'.ty=m.ty) (hcap:bx.xs.length+ys.length<=m'.cap) (bc:m'.cap<=maxLen) (aq:B<=m'.b) (a6:m'.b<w'.heap.size) (be:A' m'.b)
  (hc:w'.heap[m'.b]?=some (.cells c' m'.ty (0,0))) (ay:c'.size=m'.cap*m.sz) (az:m'.b=m.b/\0<m.cap\/w.heap.size<=m'.b)
  (ax:∀ i j,i<bx.xs.length->j<m.sz->Rel w A (MV M bx j) (c'.getD (i*m.sz+j) undef) (xIu n i j bx.ty ((bx.xs.getD i .top).cells.getD j .top)))
  (an:∀ i j,i<ys.length->j<m.sz->Rel w A xIj (c'.getD ((bx.xs.length+i)*m.sz+j) undef) ((ys.getD i .top).cells.getD j .top))
  (ak:∀ y,y∈ys->y.okElem m.sz=true) (al:∀ y,y∈ys->y.cells.getD (xIc bx.ty) .top=.nils) (au:∀ b,A' b->b<w'.heap.size) :
  ∃ M',HR w' A' M' B (H.set n ⟨bx.ver+1,bx.sz,bx.ty,bx.xs++ys.map (newRow bx.ty bx.sz),false,true⟩)/\MExt M M'/\M' (.b n)=some m'/\∀ x m0,M' x=some m0->0<m0.cap->x=.b n/\m0=m'\/M x=some m0/\x≠.b n:=by
 have hn:n<H.length:=xdB hb;let M':Id->Option MB:=fun x=>if x=.b n then some m' else match x with
  | .b _=>M x
  | .r k i j=>if k=n/\bx.xs.length<=i/\i<bx.xs.length+ys.length/\j=xIc bx.ty then some ⟨0,0,rowSz bx.ty,0,rowTy bx.ty⟩ else M x
 have aa:M' (.b n)=some m':=by simp [M']
 have ag:∀ i,bx.xs.length<=i->i<bx.xs.length+ys.length->M' (.r n i (xIc bx.ty))=some ⟨0,0,rowSz bx.ty,0,rowTy bx.ty⟩:=fun i h1 h2=>by simp [M',h1,h2]
 have Y:∀ x:Id,x≠.b n->(∀ i,bx.xs.length<=i->i<bx.xs.length+ys.length->x≠.r n i (xIc bx.ty))->M' x=M x:=fun x h1 h2=>by
  cases x with
  | b k=>simp [M',h1]
  | r k i j =>
   have:¬ (k=n/\bx.xs.length<=i/\i<bx.xs.length+ys.length/\j=xIc bx.ty):=fun ⟨a1,a2,a3,a4⟩=>h2 i a2 a3 (by rw [a1,a4])
   simp [M',this]
 have ah:∀ i j,bx.xs.length<=i->M (.r n i j)=none:=fun i j hi=>by
  cases h:M (.r n i j) with
  | none=>rfl
  | some m0 =>
   obtain ⟨rb,k1,_⟩:=hR.box _ m0 h;obtain ⟨_,_,k3,_⟩:=xgi hb hC k1;omega
 have V:MExt M M':=fun x m0 h0=>by
  by_cases h1:x=.b n
  . subst h1;rw [hm] at h0;cases h0;exact ⟨m',aa,.inr (by omega)⟩
  . exact ⟨m0,by rw [Y x h1 fun i hi _ e=>by subst e;rw [ah i _ hi] at h0;cases h0];exact h0,.inl rfl⟩
 have Z:∀ x m0,M' x=some m0->x=.b n/\m0=m'\/(∃ i,bx.xs.length<=i/\i<bx.xs.length+ys.length/\x=.r n i (xIc bx.ty)/\m0=⟨0,0,rowSz bx.ty,0,rowTy bx.ty⟩)\/(M x=some m0/\x≠.b n):=fun x m0 h=>by
  by_cases h1:x=.b n
  . subst h1;rw [aa] at h;simp only [z6] at h;exact .inl ⟨rfl,h.symm⟩
  . by_cases h2:∃ i,bx.xs.length<=i/\i<bx.xs.length+ys.length/\x=.r n i (xIc bx.ty)
    . obtain ⟨i,a1,a2,rfl⟩:=h2;rw [ag i a1 a2] at h;simp only [z6] at h;exact .inr (.inl ⟨i,a1,a2,rfl,h.symm⟩)
    . rw [Y x h1 fun i a1 a2 e=>h2 ⟨i,a1,a2,e⟩] at h
      exact .inr (.inr ⟨h,h1⟩)
 have q:∀ x m0,M' x=some m0->0<m0.cap->x=.b n/\m0=m'\/M x=some m0/\x≠.b n:=fun x m0 h h0=>by
  rcases Z x m0 h with h|⟨i,_,_,_,rfl⟩|h
  . exact .inl h
  . exact absurd h0 (by simp)
  . exact .inr h
 have aw:∀ x m0,M x=some m0->x≠.b n->0<m0.cap->m0.b≠m'.b:=fun x m0 h hx h0 e=>by
  rcases az with ⟨h1,h2⟩|h1
  . exact hx (hR.inj x (.b n) m0 m h hm h0 h2 (by rw [e,h1]))
  . obtain ⟨bf,_,k2⟩:=hR.box x m0 h;have:=k2.lt h0;omega
 have Q:(bx.xs++ys.map (newRow bx.ty bx.sz)).length=bx.xs.length+ys.length:=by simp
 have aj:(H.set n ⟨bx.ver+1,bx.sz,bx.ty,bx.xs++ys.map (newRow bx.ty bx.sz),false,true⟩)[n]?=some ⟨bx.ver+1,bx.sz,bx.ty,bx.xs++ys.map (newRow bx.ty bx.sz),false,true⟩:=zL hn;have hsz:=O.sz;have ap:∀ i,i<bx.xs.length->(bx.xs++ys.map (newRow bx.ty bx.sz)).getD i .top=bx.xs.getD i .top:=fun i hi=>by simp [z7,zP,hi]
 have ao:∀ i,i<ys.length->(bx.xs++ys.map (newRow bx.ty bx.sz)).getD (bx.xs.length+i) .top=newRow bx.ty bx.sz (ys.getD i .top):=fun i hi=>by
  simp [z7,zP,hi]
 have J:xH7 bx.ty (xIc bx.ty)=true:=by unfold xH7;rw [hC];exact Nat.beq_refl _
 refine ⟨M',hR.rebuild (fun k=>k=n) (fun k hk _=>zX (fun e=>hk e.symm)) (fun x hx=>Y x (fun e=>hx (by rw [e];rfl)) fun i _ _ e=>hx (by rw [e];rfl)) (fun x m0 hx h0 c0=>ab x m0 (fun e=>hx (by rw [e];rfl)) h0 c0) hw hs hA V (fun x m0 hx a0=>?_) (fun x m1 x' m2 _ h1 h2 c1 c2 he=>?_) au,V,aa,q⟩
 . rcases Z x m0 a0 with ⟨rfl,rfl⟩|⟨i,a1,a2,rfl,rfl⟩|⟨h0,hne⟩
   ·
    refine ⟨_,aj,by simp only;rw [O.ver,e1],by rw [e2];exact hsz,by rw [e3];exact O.ty,bc,by rw [Q];exact hcap,fun y hy=>?_,fun _=>aq,fun _=>a6,fun _=>⟨c',.of (by rw [e3];exact a9) hc,by rw [e2];exact ay,fun i j hi hj=>?_⟩,fun _=>⟨fun _=>be,fun _=>rfl⟩⟩
    . rw [e2];rcases zG.1 hy with hy|hy
      . exact O.ok y hy
      . obtain ⟨y0,a5,rfl⟩:=zK.1 hy;rw [hsz];exact xmf ae (ak y0 a5) rfl rfl
    . rw [e2] at hj |-;rw [Q] at hi;have a8:MV M' (⟨bx.ver+1,bx.sz,bx.ty,bx.xs++ys.map (newRow bx.ty bx.sz),false,true⟩:Box) j=MV M' bx j:=by unfold MV;rw [ar]
      show Rel _ _ (MV M' _ j) _ (xIu n i j bx.ty _);rw [a8];by_cases am:i<bx.xs.length
      . rw [ap i am];exact (ax i j am hj).mono hw hs hA (xtC V bx j)
      . obtain ⟨i0,rfl⟩:∃ i0,i=bx.xs.length+i0:=⟨i - bx.xs.length,by omega⟩
        have W:i0<ys.length:=by omega
        have h4:=an i0 j W hj;have af:=xbe W;rw [ao i0 W,xme (by rw [hsz];exact ae) (by rw [hsz];exact ak _ af) (by rw [hsz];exact hj)]
        by_cases ai:j=xIc bx.ty
        . subst ai;rw [if_pos rfl];rw [al _ af] at h4;have hv:c'.getD ((bx.xs.length+i0)*m.sz+xIc bx.ty) undef=.slice none 0 0:=by
           generalize c'.getD ((bx.xs.length+i0)*m.sz+xIc bx.ty) undef=u at h4;cases h4;rfl
          unfold MV xIu;rw [J,hv];exact .osl _ (.r n _ _) _ _ _ _ (ag _ (Nat.le_add_right _ _) (by omega)) (zd _) rfl fun _=>⟨zd _,none,rfl,fun h=>absurd h (by simp)⟩
        . have bb:xH7 bx.ty j=false:=by
           cases hq:xH7 bx.ty j with
           | false=>rfl
           | true=>exact absurd (xns hq) ai
          rw [if_neg ai];unfold MV xIu;rw [bb,ar];exact h4.mono hw hs hA (MExt.refl _)
   ·
    obtain ⟨i0,rfl⟩:∃ i0,i=bx.xs.length+i0:=⟨i - bx.xs.length,by omega⟩
    have W:i0<ys.length:=by omega
    have ac:∀ {p:Prop},0<(0:Nat)->p:=fun h=>absurd h (by simp)
    refine ⟨⟨0,rowSz bx.ty,rowTy bx.ty,[],false,true⟩,?_,rfl,rfl,xbS (xcp _),zQ _,zQ _,fun y hy=>by simp at hy,ac,ac,ac,ac⟩
    rw [xdK aj hC J rfl (by rw [Q];omega)]
    simp only;rw [ao i0 W,xme (by rw [hsz];exact ae) (by rw [hsz];exact ak _ (xbe W)) (by rw [hsz];exact ae),if_pos rfl]
    rfl
   ·
    have ad:x.base=n:=hx;obtain ⟨rb,k1,k2⟩:=hR.box x m0 h0;cases x with
    | b k=>simp only [Id.base] at ad;subst ad;exact absurd rfl hne
    | r k i j =>
     simp only [Id.base] at ad;subst ad;obtain ⟨q2,q3,q4,q5⟩:=xgi hb hC k1;have a7:bx.frz=false:=ba;refine ⟨rb,?_,k2.mono (fun c0=>(ab _ m0 hne h0 c0).1) hw hs hA (fun c0=>?_) V⟩
     . rw [xdK aj hC q2 rfl (by rw [Q];omega)]
       simp only;rw [ap i q4,q5];generalize (bx.xs.getD i .top).cells.getD j .top=z;cases z<;>simp [xIy,a7]
     . rw [k2.guard c0];exact ⟨(ab _ m0 hne h0 c0).2,hA _ (k2.lt c0)⟩
 . rcases q x m1 h1 c1 with ⟨rfl,rfl⟩|⟨a1,a2⟩<;>rcases q x' m2 h2 c2 with ⟨rfl,rfl⟩|⟨b1,b2⟩
   . rfl
   . exact absurd he.symm (aw x' m2 b1 b2 c2)
   . exact absurd he (aw x m1 a1 a2 c1)
   . exact hR.inj x x' m1 m2 a1 b1 c1 c2 he
def isNils:AV->Bool
 | .nils=>true
 | _=>false
def absAppC (P:Program) (H:List Box) (t tt:TypeId) (s x:AV):Option (AV×List Box) :=
 match xH5 P t,s with
 | some ti,.osl (.b n) ver off len=>match ti.d with
  | .slice e=>match xH5 P e,xH9 H (.b n) ver with
   | some te,some bx=>match absSrc P H t tt e te.sz x with
    | some (ys,pm)=>if off=0/\len=bx.xs.length/\bx.frz=false/\bx.sz=te.sz/\isC bx.ty=true/\rty bx.ty=e/\bx.pm=true/\pm=true/\xIc bx.ty<te.sz/\0<te.sz /\
      (len+ys.length)*te.bytes<=140737488355328/\len+ys.length<=xIV/\te.zero.okElem te.sz=true/\0<ys.length/\ys.all (fun y=>isNils (y.cells.getD (xIc bx.ty) .top))=true then
     some (.osl (.b n) (ver+1) 0 (len+ys.length),H.set n ⟨ver+1,te.sz,bx.ty,bx.xs++ys.map (newRow bx.ty te.sz),false,true⟩) else none
    | none=>none
   | _,_=>none
  | _=>none
 | _,_=>none
set_option maxHeartbeats 1000000 in
def xyV (hR:HR w A M B H) (hB:B<=w.heap.size) {o:Oper} {ρc:Operand->Value} {c:Call} {t tt:TypeId} {os ox:Operand} {xs xx r:AV} {H':List Box} (ho:o.op=.call c) (bf:c.callee=.builtin .append)
  (bv:c.argTypes.toList=[t,tt]) (b6:c.args.toList=[os,ox]) (hs:Rel w A M (ρc os) xs) (hx:Rel w A M (ρc ox) xx) (h:absAppC P H t tt xs xx=some (r,H')) :
  Writes P o ρc w A M B r H':=by
 unfold absAppC at h;split at h
 case h_2=>simp at h
 rename_i ti n ver off len b4;split at h
 case h_2=>simp at h
 rename_i e hd;split at h
 case h_2=>simp at h
 rename_i te bx bc ak;split at h
 case h_2=>simp at h
 rename_i ys pm bn;split at h
 case isFalse=>simp at h
 rename_i bt;obtain ⟨rfl,ad,a1,hsz,hC,b3,bi,rfl,bg,a6,ax,bu,aw,bw,a7⟩:=bt;simp only [z6,zb] at h;obtain ⟨rfl,rfl⟩:=h;have hu:P.underlying t=some (.slice e):=by rw [xk0 b4,hd]
 obtain ⟨i,z,ah,cd,ar,ac,az,b2,_⟩:=xbQ bc;have a9:=xnu (ty:=o.type) hR bc a6 hu ah hx bn;have hts':c.argTypes=#[t,tt]:=by apply Array.ext';simpa using bv
 have has':c.args=#[os,ox]:=by apply Array.ext';simpa using b6
 have aj:∀ v w',(Builtin.append_ #[t,tt] o.type #[ρc os,ρc ox]).run P w=.ok v w'->(execOp ρc o).run P w=.ok (.value v) w':=by
  intro v w' hv;simp [execOp,ho,resolve,bf,hts',has',invoke,builtin,hv,Go.resolve]
 rcases a9 with ⟨rfl,_⟩|⟨_,b5,news,ab,ba,Z⟩
 . simp at bw
 obtain ⟨m,a,hm,O,au,ae,ha⟩:=xjh hR hs ak;obtain ⟨a0,bb⟩:=xbi ak;rw [xcb] at a0;simp only [Nat.sub_zero,zH] at ae au;have V:m.sz=te.sz:=by rw [<-O.sz,hsz]
 have a5:m.ty=e:=by rw [<-O.ty,b3]
 have be:m.ver=ver:=by rw [<-O.ver,bb]
 have b9:len+ys.length<=4611686018427387904:=bu;have hnil':∀ y,y∈ys->y.cells.getD (xIc bx.ty) .top=.nils:=fun y hy=>by
  have:=zI.1 a7 y hy;generalize y.cells.getD (xIc bx.ty) .top=q at this;cases q<;>first|rfl|(simp [isNils] at this)
 have hok':∀ y,y∈ys->y.okElem m.sz=true:=fun y hy=>by rw [V];exact b5 y hy
 have hH':(⟨ver+1,te.sz,bx.ty,bx.xs++ys.map (newRow bx.ty te.sz),false,true⟩:Box)=⟨bx.ver+1,bx.sz,bx.ty,bx.xs++ys.map (newRow bx.ty bx.sz),false,true⟩:=by rw [hsz,bb]
 rw [hH'];have b1:Rel w A M z te.zero:=by rw [b2];exact xdM w A M z
 obtain ⟨ca,_⟩:=b1.cells (xbs aw);have cb:=xa3 aw;have al:∀ (c1:Array Value) (cap:Nat),c1.size=cap*te.sz->len+ys.length<=cap->cap<=maxLen ->
   (∀ i j,i<bx.xs.length->j<m.sz->Rel w A (MV M bx j) (c1.getD (i*m.sz+j) undef) (xIu n i j bx.ty ((bx.xs.getD i .top).cells.getD j .top))) ->
   (∀ k,k<ys.length*te.sz->c1.getD (len*te.sz+k) undef=news.getD k undef) ->
   (Builtin.append_ #[t,tt] o.type #[ρc os,ρc ox]).run P w=.ok (.slice (some ⟨w.heap.size,0,none⟩) (len+ys.length) cap) (w.drew.alloc (.cells c1 e)) ->
   Writes P o ρc w A M B (.osl (.b n) (ver+1) 0 (len+ys.length)) (H.set n ⟨bx.ver+1,bx.sz,bx.ty,bx.xs++ys.map (newRow bx.ty bx.sz),false,true⟩):=by
  intro c1 cap ai af ag bj a8 Q;have Y:Below w.heap.size w (w.drew.alloc (.cells c1 e)):=((Below.refl _ _).drew).alloc (by simp) _
  have hA:∀ b,b<w.heap.size->(APut A w.heap.size false b->A b):=fun b hb h=>by
   rcases h with h|⟨h,_⟩
   . exact h
   . omega
  have bo:(w.drew.alloc (.cells c1 e)).heap[w.heap.size]?=some (.cells c1 e (0,0)):=heap_alloc_new w.drew (.cells c1 e);obtain ⟨M',g1,g2,g3,g4⟩:=hR.grown (m':=⟨w.heap.size,ver+1,te.sz,cap,e⟩) (w':=w.drew.alloc (.cells c1 e)) (A':=APut A w.heap.size false) (c':=c1) (ys:=ys) hm a0 O a1 hC (O.nomap (xc7 ak)) bi (by rw [V];exact bg)
   (fun b hb _=>Y.block b hb) Y.size hA (fun x m0 _ h0 c0=>by
    obtain ⟨cc,_,k2⟩:=hR.box x m0 h0;exact ⟨Y.block _ (k2.lt c0),.inl⟩) (by simp [be]) V.symm a5.symm (by simp;omega) ag hB (by simp) (.inr ⟨rfl,rfl⟩) bo (by simp [V,ai]) (.inr (zd _)) bj
   (fun i' j W hj=>by
    rw [V] at hj |-;rw [Nat.add_mul,Nat.add_assoc,<-ad,a8 _ (xeE W hj)];exact ba i' j W hj) hok' hnil' (fun b hb=>by
     rcases hb with hb|⟨rfl,_⟩
     . have:=hR.lt b hb;simp;omega
     . simp)
  exact ⟨_,_,APut A w.heap.size false,M',_,aj _ _ Q,.inl rfl,Y.mono hB,g2,fun b hb=>⟨hA b hb,.inl⟩,fun b hb _=>Y.block b hb,⟨fun b hb _=>Y.block b hb,fun x m0 h0 c0=>by
   rcases g4 x m0 h0 c0 with ⟨_,rfl⟩|⟨h1,_⟩
   . exact .inr (zd _)
   . exact .inl ⟨x,m0,h1,c0,rfl⟩⟩,g1,.osl _ (.b n) (ver+1) 0 (len+ys.length) _ g3 (zd _) rfl fun _=>⟨by simpa using af,some ⟨w.heap.size,0,none⟩,by simp,fun _=>by simp⟩⟩
 rcases Nat.eq_zero_or_pos m.cap with J|J
 ·
  have bz:bx.xs=[]:=zA (by omega)
  have bp:len=0:=by omega
  subst bp;rw [J] at ae;have af:=grownCap_ge w (0+ys.length) 0 e;have ag:=grownCap_le_maxLen w (0+ys.length) 0 e (by unfold maxLen;omega)
  have am:(Builtin.zeroCells z.cells (grownCap w (0+ys.length) 0 e - ys.length)).size=(grownCap w (0+ys.length) 0 e - ys.length)*te.sz:=by rw [size_zeroCells];congr 1;omega
  refine al (news.toArray++Builtin.zeroCells z.cells (grownCap w (0+ys.length) 0 e - ys.length)) (grownCap w (0+ys.length) 0 e) (by rw [Array.size_append,List.size_toArray,ab,am,<-Nat.add_mul];congr 1;omega) af ag (fun i' j W _=>by rw [bz] at W;simp at W) (fun k hk=>?_) ?_
  . rw [show 0*te.sz+k=k by omega]
    simp only [zu,Array.getElem?_append,List.size_toArray,ab,hk,if_true,List.getElem?_toArray,z7]
  . rw [ae];cases a with
    | none =>
     have Q:=(Z i z ah ar ac.symm).nil (by omega) (by rw [<-az];simp at ax;omega)
     simpa using Q
    | some a =>
     have Q:=(Z i z ah ar ac.symm).grow a 0 0 [] (by simp) (by simp) (by omega) (by omega) (growslice_fits (by omega) (by rw [<-az];exact ax))
     simpa using Q
 have b7:=ha J;subst b7;simp only [Nat.zero_mul] at ae;obtain ⟨c0,h1,h2,h3⟩:=O.cells J
 replace h1:=h1.plain (O.nomap (xc7 ak))
 have bh:A m.b:=(O.guard J).1 a1;have b0:len<=m.cap:=au;by_cases aa:len+ys.length<=m.cap
 ·
  have an:len*te.sz+news.length<=c0.toList.length:=by
   have b8:c0.toList.length=m.cap*te.sz:=by simp [h2,V]
   rw [ab,<-Nat.add_mul,b8];exact Nat.mul_le_mul_right _ aa
  have Q:(Builtin.append_ #[t,tt] o.type #[ρc os,ρc ox]).run P w=.ok (.slice (some ⟨m.b,0,none⟩) (len+ys.length) m.cap) (w.setRow m.b (xIY c0.toList (len*te.sz) news).toArray):=by
   have a4:len*i.size+news.length<=c0.size:=by
    rw [ab,<-ac,<-Nat.add_mul,h2,V];exact Nat.mul_le_mul_right _ aa
   have:=(Z i z ah ar ac.symm).room m.b len m.cap c0 (by rw [<-a5];exact h1) aa a4
   rw [ae,this,<-ac];rfl
  generalize ay:(xIY c0.toList (len*te.sz) news).toArray=c1 at Q;have bk:c1.size=m.cap*m.sz:=by rw [<-ay];have:=xkm an;simp at this |-;omega
  have hs':(w.setRow m.b c1).heap.size=w.heap.size:=by simp [World.setRow]
  have hw:∀ b,b<w.heap.size->¬ A b->(w.setRow m.b c1).heap[b]?=w.heap[b]?:=fun b _ hb=>setRow_other w m.b b c1 fun e=>hb (e▸bh)
  obtain ⟨M',g1,g2,g3,g4⟩:=hR.grown (m':=⟨m.b,ver+1,m.sz,m.cap,m.ty⟩) (w':=w.setRow m.b c1) (A':=A) (c':=c1) (ys:=ys) hm a0 O a1 hC (O.nomap (xc7 ak)) bi (by rw [V];exact bg)
   hw (by rw [hs'];exact zd _) (fun _ _ h=>h) (fun x m0 hx h0 ap=>⟨setRow_other w m.b m0.b c1 fun e=>hx (hR.inj x (.b n) m0 m h0 hm ap J e),fun h=>h⟩) (by simp [be]) rfl rfl (by simp;omega) O.capm (O.low J) (by rw [hs'];exact O.lt J) bh
   (setRow_heap w m.b c0 c1 m.ty (0,0) h1) bk (.inl ⟨rfl,J⟩)
   (fun i' j W hj=>by
    rw [<-ay,xfY,xic an,if_neg (by
     have h9:=xeE W hj;rw [<-ad,V] at h9;rw [V];omega),xeb]
    exact h3 i' j W hj)
   (fun i' j W hj=>by
    rw [V] at hj |-;rw [Nat.add_mul,Nat.add_assoc,<-ad,<-ay,xfY,xic an,if_pos (by have:=xeE W hj;rw [ab];omega),show len*te.sz+(i'*te.sz+j) - len*te.sz=i'*te.sz+j by omega]
    exact ba i' j W hj) hok' hnil' (fun b hb=>by rw [hs'];exact hR.lt b hb)
  exact ⟨_,w.setRow m.b c1,A,M',_,aj _ _ Q,.inl rfl,⟨rfl,rfl,rfl,by rw [hs'];exact zd _,fun k hk=>setRow_other w m.b k c1 fun e=>by have:=O.low J;omega⟩,g2,fun _ _=>Iff.rfl,hw,⟨fun b _ hb=>setRow_other w m.b b c1 fun e=>hb (.b n) m hm J e.symm,fun x m0 h0 ap=>by
   rcases g4 x m0 h0 ap with ⟨_,rfl⟩|⟨bq,_⟩
   . exact .inl ⟨.b n,m,hm,J,rfl⟩
   . exact .inl ⟨x,m0,bq,ap,rfl⟩⟩,g1,.osl _ (.b n) (ver+1) 0 (len+ys.length) _ g3 (zd _) rfl fun _=>⟨by simpa using aa,some ⟨m.b,0,none⟩,by simp,fun _=>by simp⟩⟩
 . have a2:∀ j u,(c0.toList.take (len*te.sz))[j]?=some u->w.cell? ((⟨m.b,0,none⟩:Addr).add j)=some u:=by
    intro j u aq;rw [List.getElem?_take] at aq;split at aq
    . rw [xfW,zH];simp [World.cell?,h1];simpa using aq
    . simp at aq
   have ao:(c0.toList.take (len*te.sz)).length=len*te.sz:=by
    simp only [zt,Array.length_toList,h2,V];have:len*te.sz<=m.cap*te.sz:=Nat.mul_le_mul_right _ b0;omega
   have Q:=(Z i z ah ar ac.symm).grow ⟨m.b,0,none⟩ len m.cap (c0.toList.take (len*te.sz)) (by rw [ao,ac]) a2 (by omega) (by omega) (growslice_fits (by omega) (by rw [<-az];exact ax))
   have af:=grownCap_ge w (len+ys.length) m.cap e;have ag:=grownCap_le_maxLen w (len+ys.length) m.cap e (by unfold maxLen;omega)
   generalize hcap:grownCap w (len+ys.length) m.cap e=cap at Q af ag;have am:(Builtin.zeroCells z.cells (cap - (len+ys.length))).size=(cap - (len+ys.length))*te.sz:=by rw [size_zeroCells];congr 1;omega
   generalize a3:(c0.toList.take (len*te.sz)).toArray++news.toArray++Builtin.zeroCells z.cells (cap - (len+ys.length))=c1 at Q;have ai:c1.size=cap*te.sz:=by
    rw [<-a3];simp only [Array.size_append,List.size_toArray,ao,ab,am,<-Nat.add_mul];congr 1;omega
   refine al c1 cap ai af ag (fun i' j W hj=>?_) (fun k hk=>?_) (by rw [ae];exact Q)
   . have hk:=xeE W hj;rw [<-ad,V] at hk;have e1:c1.getD (i'*m.sz+j) undef=c0.getD (i'*m.sz+j) undef:=by
      rw [<-xeb,<-xeb,<-a3,V];simp only [Array.toList_append,zw,z7,zP,ao,hk,if_true,List.getElem?_take]
     rw [e1];exact h3 i' j W hj
   . rw [<-xeb,<-a3];simp only [Array.toList_append,zw,z7,zP,ao,show ¬ len*te.sz+k<len*te.sz by omega,if_false,ab,show len*te.sz+k - len*te.sz=k by omega,hk,if_true]
def mkd (H:List Box):AV->Bool
 | .own (.b n) _ _ _=>match H[n]? with
  | some bx=>isC bx.ty
  | none=>false
 | .osl (.b n) _ _ _=>match H[n]? with
  | some bx=>isC bx.ty
  | none=>false
 | _=>false
def isRowRef:AV->Bool
 | .osl (.r _ _ _) _ _ _=>true
 | _=>false
def absTake (P:Program) (H:List Box) (t tt:TypeId) (s x:AV):Option (AV×List Box) :=
 match s with
 | .osl (.r n i j) ver off len=>match H[n]? with
  | some bx=>match (bx.xs.getD i .top).cells.getD j .top with
   | .list sz ys=>if xH7 bx.ty j=true/\bx.pm=true/\j<bx.sz/\i<bx.xs.length/\(bx.xs.getD i .top).cells.length=bx.sz/\ver=2*ys.length/\off=0/\len=ys.length then
    xI9 P (H.set n (xIe bx bx.ver i j (.int .i64 ys.length))++[⟨0,sz,rowTy bx.ty,ys,bx.frz,true⟩]) t tt (.osl (.b H.length) 0 0 len) x else none
   | _=>none
  | none=>none
 | _=>none
def Writes.pre {o:Oper} {ρc:Operand->Value} {x:AV} {H':List Box} {M1:Id->Option MB} (hm:Mv w A M w A M1) (h:Writes P o ρc w A M1 B x H'):Writes P o ρc w A M B x H':=by
 obtain ⟨n,w',A',M',v,h1,h2,h3,h4,h5,h6,h7,h8,h9⟩:=h;refine ⟨n,w',A',M',v,h1,h2,h3,hm.ext.trans h4,h5,h6,⟨fun b hb J=>h7.1 b hb fun id m q h0 e=>?_,fun id m' q h0=>?_⟩,h8,h9⟩
 . rcases hm.touch.2 id m q h0 with ⟨i,m1,g1,g2,g3⟩|g1
   . exact J i m1 g1 g2 (by rw [<-g3,e])
   . omega
 . rcases h7.2 id m' q h0 with ⟨i,m1,g1,g2,g3⟩|g1
   . rcases hm.touch.2 i m1 g1 g2 with ⟨i2,m2,k1,k2,k3⟩|k1
     . exact .inl ⟨i2,m2,k1,k2,by rw [g3,k3]⟩
     . exact .inr (by rw [g3];exact k1)
   . exact .inr g1
def xzP (hR:HR w A M B H) (hB:B<=w.heap.size) {o:Oper} {ρc:Operand->Value} {c:Call} {t tt:TypeId} {os ox:Operand} {xs xx r:AV} {H':List Box} (ho:o.op=.call c) (J:c.callee=.builtin .append)
  (W:c.argTypes.toList=[t,tt]) (V:c.args.toList=[os,ox]) (hs:Rel w A M (ρc os) xs) (hx:Rel w A M (ρc ox) xx) (h:absTake P H t tt xs xx=some (r,H')) :
  Writes P o ρc w A M B r H':=by
 unfold absTake at h;split at h
 case h_2=>simp at h
 rename_i n i j ver off len;split at h
 case h_2=>simp at h
 rename_i bx hb;split at h
 case h_2=>simp at h
 rename_i sz ys q;split at h
 case isFalse=>simp at h
 rename_i Q;obtain ⟨Y,Z,hj,hi,O,rfl,rfl,rfl⟩:=Q;obtain ⟨m,hm,_⟩:=Rel.osl_inv hs;obtain ⟨d1,d2,d3⟩:=hR.detach hb Y q hj O hm;exact Writes.pre d2 (xqh d1 hB ho J W V (d3 _ hs) (hx.mono (fun _ _ _=>rfl) (zd _) (fun _ _ h=>h) d2.ext) h)
def xDS {t:TypeId} (q:xH8 t=false):isC (rty t)=false:=by
 unfold rty;split
 . rw [q];show isC (t % 1048576)=false;have h:t % 1048576<1048576:=Nat.mod_lt _ (by omega)
   unfold isC;cases hb:Nat.ble 1048576 (t % 1048576) with
   | false=>rfl
   | true=>have:=Nat.le_of_ble_eq_true hb;exact absurd h (Nat.not_lt.2 this)
 . assumption
def HR.unmark (hR:HR w A M B H) {n:Nat} {bx:Box} (hb:H[n]?=some bx) (hC:isC bx.ty=true) (ag:xH8 bx.ty=false) (ai:rowsOk bx bx.xs=true) :
  ∃ A' M',HR w A' M' B (H.set n ⟨bx.ver,bx.sz,rty bx.ty,bx.xs,bx.frz,true⟩)/\Mv w A M w A' M'/\∀ b,b<B->A b->A' b:=by
 have hn:n<H.length:=xdB hb;let A':Nat->Prop:=fun b=>A b/\¬ ∃ i j m0,M (.r n i j)=some m0/\0<m0.cap/\m0.b=b
 let M':Id->Option MB:=fun x=>match x with
  | .b _=>M x
  | .r k i j=>if k=n then (M x).map fun _=>⟨0,tombB.ver,0,0,0⟩ else M x
 have aj:∀ k,M' (.b k)=M (.b k):=fun k=>rfl
 have V:∀ i j m0,M (.r n i j)=some m0->M' (.r n i j)=some ⟨0,tombB.ver,0,0,0⟩:=fun i j m0 h=>by simp [M',h]
 have Z:∀ i j,M (.r n i j)=none->M' (.r n i j)=none:=fun i j h=>by simp [M',h]
 have J:∀ x:Id,x.base≠n->M' x=M x:=fun x hx=>by
  cases x with
  | b k=>rfl
  | r k i j=>simp only [Id.base] at hx;simp [M',hx]
 have q:=ai;unfold rowsOk at q;rw [hC] at q;simp only [xIC,zf,zI] at q;obtain ⟨ah,q⟩:=q;have ab:∀ i j m0,M (.r n i j)=some m0->xH7 bx.ty j=true/\i<bx.xs.length/\m0.ver<tombB.ver:=fun i j m0 h=>by
  obtain ⟨rb,k1,k2⟩:=hR.box _ m0 h;obtain ⟨e1,e2,e3,e4⟩:=xgi hb hC k1;obtain ⟨ys,hy⟩:=xgq (q _ (xbe e3));rw [xns e1,hy] at e4;subst e4;have h1:2*ys.length=m0.ver:=k2.ver;have h2:ys.length<=m0.cap:=k2.fits;have h3:=k2.capm;unfold maxLen at h3;refine ⟨e1,e3,?_⟩;show m0.ver<1208925819614629174706176;omega
 have aa:MExt M M':=fun x m0 h=>by
  by_cases hx:x.base=n
  . cases x with
    | b k=>exact ⟨m0,h,.inl rfl⟩
    | r k i j =>
     simp only [Id.base] at hx;subst hx;exact ⟨_,V i j m0 h,.inr (ab i j m0 h).2.2⟩
  . exact ⟨m0,by rw [J x hx];exact h,.inl rfl⟩
 have O:∀ x m',M' x=some m'->0<m'.cap->M x=some m'/\∀ i j,x≠.r n i j:=fun x m' h h0=>by
  by_cases hx:x.base=n
  . cases x with
    | b k=>exact ⟨h,fun i j e=>by cases e⟩
    | r k i j =>
     simp only [Id.base] at hx;subst hx;cases hm:M (.r k i j) with
     | none=>rw [Z i j hm] at h;cases h
     | some m0 =>
      rw [V i j m0 hm] at h;cases h;exact absurd h0 (by simp)
  . rw [J x hx] at h;exact ⟨h,fun i j e=>hx (by rw [e];rfl)⟩
 have hA:∀ b,b<w.heap.size->A' b->A b:=fun b _ h=>h.1
 have Q:∀ (x:Id) m0,(∀ i j,x≠.r n i j)->M x=some m0->0<m0.cap->A m0.b->A' m0.b:=fun x m0 hx h h0 af=>by
  refine ⟨af,?_⟩;rintro ⟨i,j,m1,e1,e2,e3⟩;exact hx i j (hR.inj x (.r n i j) m0 m1 h e1 h0 e2 e3.symm)
 have ad:(H.set n ⟨bx.ver,bx.sz,rty bx.ty,bx.xs,bx.frz,true⟩)[n]?=some ⟨bx.ver,bx.sz,rty bx.ty,bx.xs,bx.frz,true⟩:=zL hn;have W:isC (rty bx.ty)=false:=xDS ag;refine ⟨A',M',hR.rebuild (fun k=>k=n) (fun k hk _=>zX (fun e=>hk e.symm)) (fun x hx=>J x hx) (fun x m0 hx h0 c0=>⟨rfl,Q x m0 (fun i j e=>hx (by rw [e];rfl)) h0 c0⟩) (fun _ _ _=>rfl) (zd _) hA aa (fun x m' hx h=>?_) (fun x m1 x' m2 _ h1 h2 c1 c2 he=>?_) (fun b hb=>hR.lt b hb.1),
  ⟨zd _,fun _ _ _=>rfl,hA,fun b _ h ae=>⟨h,?_⟩,aa,⟨fun _ _ _=>rfl,fun x m' h h0=>.inl ⟨x,m',(O x m' h h0).1,h0,rfl⟩⟩⟩,fun b ak h=>⟨h,?_⟩⟩
 . cases x with
   | b k =>
    have hx:k=n:=hx;subst hx;have h:M (.b k)=some m':=h;obtain ⟨bx',k1,k2⟩:=hR.box _ m' h;rw [xcb,hb] at k1;cases k1;refine ⟨_,ad,k2.ver,k2.sz,by rw [xbS W];exact k2.ty,k2.capm,k2.fits,k2.ok,k2.low,k2.lt,fun h0=>?_,fun h0=>?_⟩
    . obtain ⟨c,c1,c2,c3⟩:=k2.cells h0;refine ⟨c,c1,c2,fun i j hi hj=>?_⟩
      have h4:=c3 i j hi hj;rw [xa1 W,xbK (bx:=⟨bx.ver,bx.sz,rty bx.ty,bx.xs,bx.frz,true⟩) W];show Rel w A' xIj _ _;cases ac:xH7 bx.ty j with
      | true =>
       obtain ⟨ys,hy⟩:=xgq (q _ (xbe hi));rw [<-xns ac] at hy;unfold xIu MV at h4;simp only [ac] at h4;rw [hy] at h4 |-;exact xvx hR hA hb hC hy h4 fun m0 e1 e2 e3=>e3.2 ⟨i,j,m0,e1,e2,rfl⟩
      | false =>
       unfold xIu MV at h4;simp only [ac,ah] at h4;exact h4.mono (fun _ _ _=>rfl) (zd _) hA (MExt.refl _)
    . rw [k2.guard h0];exact ⟨Q (.b k) m' (fun i j e=>by cases e) h h0,fun h=>h.1⟩
   | r k i j =>
    have hx:k=n:=hx;subst hx;cases hm:M (.r k i j) with
    | none=>rw [Z i j hm] at h;cases h
    | some m0 =>
     rw [V i j m0 hm] at h;cases h;have Y:∀ {p:Prop},0<(0:Nat)->p:=fun h=>absurd h (by simp)
     exact ⟨tombB,xdV ad W,rfl,rfl,rfl,zQ _,zQ _,fun y hy=>by simp [tombB] at hy,Y,Y,Y,Y⟩
 . exact hR.inj x x' m1 m2 (O x m1 h1 c1).1 (O x' m2 h2 c2).1 c1 c2 he
 . rintro ⟨i,j,m1,e1,e2,e3⟩;exact ae _ m1 e1 e2 e3
 . rintro ⟨i,j,m1,e1,e2,e3⟩;obtain ⟨rb,_,k2⟩:=hR.box _ m1 e1;have:=k2.low e2;omega
end
section
open Go.Maps Go.MapKept
def isKey (s:List UInt8) (x:AV):Bool:=match x with
 | .str k=>k==s
 | _=>false
def mapIx:List AV->List UInt8->Option Nat
 | [],_=>none
 | e::es,s=>match isKey s (e.cells.getD 0 .top) with
  | true=>some 0
  | false=>(mapIx es s).map (·+1)
def xIB (xs:List AV) (s:List UInt8):Bool:=(mapIx xs s).isSome
def xIo (z:AV) (xs:List AV) (s:List UInt8):AV:=match mapIx xs s with
 | some i=>(xs.getD i .top).cells.getD 1 .top
 | none=>z
def xIm (xs:List AV) (s:List UInt8) (v:AV):List AV:=match mapIx xs s with
 | some i=>xs.set i (.agg [.str s,v])
 | none=>xs++[.agg [.str s,v]]
def mapTy (t:TypeId):TypeId:=1208925819614629241815040+4294967296*t
def xpt:∀ {xs:List AV} {s:List UInt8},(∀ i,i<xs.length->isKey s ((xs.getD i .top).cells.getD 0 .top)=false)->mapIx xs s=none
 | [],_,_=>rfl
 | e::es,s,h=>by
  have h0:=h 0 (by simp)
  simp only [List.getD_cons_zero] at h0;simp only [mapIx,h0];rw [xpt fun i hi=>by simpa using h (i+1) (by simpa using hi)]
  rfl
def xni:∀ {xs:List AV} {s:List UInt8} {j:Nat},j<xs.length->isKey s ((xs.getD j .top).cells.getD 0 .top)=true->(∀ i,i<j->isKey s ((xs.getD i .top).cells.getD 0 .top)=false)->mapIx xs s=some j
 | [],_,_,h,_,_=>by simp at h
 | e::es,s,0,_,h1,_=>by simp only [List.getD_cons_zero] at h1;simp only [mapIx,h1]
 | e::es,s,j+1,h,h1,h2=>by
  have h0:=h2 0 (by omega)
  simp only [List.getD_cons_zero] at h0;simp only [mapIx,h0];rw [xni (j:=j) (by simpa using h) (by simpa using h1) fun i hi=>by simpa using h2 (i+1) (by omega)]
  rfl
def xoe {s t:ByteArray} (h:s.data.toList=t.data.toList):s=t:=by
 cases s;cases t;simp only at h;congr 1;exact Array.ext' h
structure MapAt (w:World) (A:Nat->Prop) (M:Id->Option MB) (m:MB) (xs:List AV) (es:Array MapEntry) (clock:Nat):Prop where
 heap:MapB w m.b es clock
 size:es.size=xs.length
 keys:∀ (k:Nat) (x:MapEntry),es[k]?=some x->∃ t:ByteArray,x.key=.string t/\(xs.getD k .top).cells.getD 0 .top=.str t.data.toList/\t.size<=maxLen
 vals:∀ (k:Nat) (x:MapEntry),es[k]?=some x->Rel w A M x.val ((xs.getD k .top).cells.getD 1 .top)
 apart:∀ (k l:Nat) (x y:MapEntry),es[k]?=some x->es[l]?=some y->x.key=y.key->k=l
def MapAt.miss {w:World} {A:Nat->Prop} {M:Id->Option MB} {m:MB} {xs:List AV} {es:Array MapEntry} {clock:Nat} (h:MapAt w A M m xs es clock) {t:ByteArray} (q:∀ x∈es.toList,x.key≠.string t):mapIx xs t.data.toList=none :=
 xpt fun i hi=>by
  have hi':i<es.size:=by rw [h.size];exact hi
  obtain ⟨t',h1,h2,_⟩:=h.keys i es[i] (by simp [hi'])
  rw [h2];show (t'.data.toList==t.data.toList)=false;rw [beq_eq_false_iff_ne];intro e;exact q es[i] (by simp) (by rw [h1,xoe e])
def MapAt.hit {w:World} {A:Nat->Prop} {M:Id->Option MB} {m:MB} {xs:List AV} {es:Array MapEntry} {clock:Nat} (h:MapAt w A M m xs es clock) {t:ByteArray} {j:Nat} {e0:MapEntry} (hj:es.toList[j]?=some e0) (hk:e0.key=.string t):mapIx xs t.data.toList=some j/\j<xs.length:=by
 have q:es[j]?=some e0:=by simpa using hj
 have hj':j<es.size:=by
  rcases zJ j es.size with h|h
  . exact h
  . simp [Array.getElem?_eq_none h] at q
 have J:j<xs.length:=by rw [<-h.size];exact hj'
 refine ⟨xni J ?_ fun i hi=>?_,J⟩
 . obtain ⟨t',h1,h2,_⟩:=h.keys j e0 q;rw [h2];rw [hk] at h1;injection h1 with h1;rw [h1];show (t'.data.toList==t'.data.toList)=true;exact beq_self_eq_true _
 . have hi':i<es.size:=by omega
   obtain ⟨t',h1,h2,_⟩:=h.keys i es[i] (by simp [hi'])
   rw [h2];show (t'.data.toList==t.data.toList)=false;rw [beq_eq_false_iff_ne];intro e;have:=h.apart i j es[i] e0 (by simp [hi']) q (by rw [h1,hk,xoe e])
   omega
def xug {xs:List AV} {sz k j:Nat} (q:∀ x,x∈xs->x.okElem sz=true) (hk:k<xs.length) (hj:j<sz):((xs.getD k .top).cells.getD j .top).one=true:=by
 have h:=q _ (xbe hk);have h1:=xbs h;have h2:=xa3 h;rw [zI] at h1;exact h1 _ (xbe (by omega))
def xsT {w:World} {A:Nat->Prop} {M:Id->Option MB} {t:ByteArray} {x:AV} (h:Rel w A M (.string t) x) (hx:x.one=true) (J:∀ id ver i j,x≠.own id ver i j) (q:∀ id ver i j,x≠.osl id ver i j):x=.str t.data.toList:=by
 generalize hv:Value.string t=v at h;cases h<;>first|(cases hv;rfl)|(cases hv;done)|(simp [AV.one] at hx;done)|(exact absurd rfl (J _ _ _ _))|(exact absurd rfl (q _ _ _ _))
def BoxAt.mapAt {w:World} {A:Nat->Prop} {M:Id->Option MB} {B:Nat} {id:Id} {m:MB} {bx:Box} (h:BoxAt w A M B id m bx) (hm:xH8 bx.ty=true) (h0:xH7 bx.ty 0=false) (h1:xH7 bx.ty 1=false) (hs:bx.sz=2) (hp:bx.pm=true) (hcap:0<m.cap) :
  ∃ es clock,MapAt w A xIj m bx.xs es clock/\m.cap=maxLen:=by
 obtain ⟨c,c1,c2,c3⟩:=h.cells hcap;have O:xH8 m.ty=true:=by
  rw [<-h.ty];unfold rty;split
  . rw [hm];exact hm
  . exact hm
 unfold HoldsC at c1;rw [O] at c1;obtain ⟨es,clock,d1,d2,d3,d4,d5,d6⟩:=c1;have hsz:m.sz=2:=by rw [<-h.sz];exact hs
 have J:∀ (k:Nat) (x:MapEntry),es[k]?=some x->k<bx.xs.length:=fun k x hx=>by
  rw [<-d2];rcases zJ k es.size with h|h
  . exact h
  . simp [Array.getElem?_eq_none h] at hx
 have q:∀ (k j:Nat),k<bx.xs.length->j<2->xH7 bx.ty j=false->Rel w A xIj (c.getD (k*m.sz+j) undef) ((bx.xs.getD k .top).cells.getD j .top):=fun k j hk hj V=>by
  have h4:=c3 k j hk (by rw [hsz];exact hj)
  unfold MV xIu at h4;simp only [V,hp] at h4;exact h4
 refine ⟨es,clock,⟨d1,d2,fun k x hx=>?_,fun k x hx=>?_,d6⟩,d3⟩
 . obtain ⟨t,ht,Q⟩:=d5 k x hx;have hk:=J k x hx;have h4:=q k 0 hk (by omega) h0
   rw [Nat.add_zero,(d4 k x hx).1,ht] at h4;exact ⟨t,ht,xsT h4 (xug h.ok hk (by rw [hsz];omega)) (fun id ver i j e=>by rw [e] at h4;obtain ⟨_,hh,_⟩:=Rel.own_inv h4;cases hh) (fun id ver i j e=>by rw [e] at h4;obtain ⟨_,hh,_⟩:=Rel.osl_inv h4;cases hh),Q⟩
 . have h4:=q k 1 (J k x hx) (by omega) h1
   rw [(d4 k x hx).2] at h4;exact h4
def getMap (H:List Box) (n:Nat) (ver:Nat):Option Box:=match H[n]? with
 | some bx=>if bx.ver=ver/\xH8 bx.ty=true/\xH7 bx.ty 0=false/\xH7 bx.ty 1=false/\bx.sz=2/\bx.pm=true then some bx else none
 | none=>none
def mapNum (P:Program) (t e:TypeId):Option TypeId:=match P.underlying e with
 | some (.slice e2)=>match xH5 P e2 with
  | some te=>match Nat.beq te.sz 200 with
   | true=>some (mapTy t)
   | false=>some (1208925819614629174706176+4503599627370496*t+1048576*(2+64*(te.sz+64*e2)))
  | none=>none
 | _=>some (mapTy t)
def absMakeM (P:Program) (H:List Box) (t:TypeId):Option (AV×List Box):=match P.underlying t with
 | some (.map k e)=>match P.underlying k,mapNum P t e with
  | some .string,some ty=>if xH8 ty=true/\isC ty=true then some (.own H.length 0 0 0,H++[⟨0,2,ty,[],false,true⟩]) else none
  | _,_=>none
 | _=>none
def absLookM (P:Program) (H:List Box) (t:TypeId) (m k:AV) (c:Bool):Option AV:=match m,k,P.underlying t with
 | .own (.b n) ver _ _,.str s,some (.map kt et)=>match P.underlying kt,xH5 P et,getMap H n ver with
  | some .string,some te,some bx=>if s.length<=xIV then some (match c with
   | true=>.tuple [xIo te.zero bx.xs s,.bool (xIB bx.xs s)]
   | false=>xIo te.zero bx.xs s) else none
  | _,_,_=>none
 | _,_,_=>none
def lookL (xs:List AV) (s:List UInt8):List AV:=match mapIx xs s with
 | some i=>((xs.getD i .top).cells.getD 1 .top).toList
 | none=>[]
def absLookL (P:Program) (H:List Box) (t:TypeId) (m k:AV) (c:Bool):Option AV:=match m,k,P.underlying t with
 | .own (.b n) ver _ _,.str s,some (.map kt et)=>match P.underlying kt,P.underlying et,xH5 P et,getMap H n ver with
  | some .string,some (.slice e2),some te,some bx=>match te.zero,xH5 P e2 with
   | .nils,some te2=>if s.length<=xIV/\(!xIB bx.xs s || xIM te2.sz (xIo .nils bx.xs s))=true then some (match c with
    | true=>.tuple [.list te2.sz (lookL bx.xs s),.bool (xIB bx.xs s)]
    | false=>.list te2.sz (lookL bx.xs s)) else none
   | _,_=>none
  | _,_,_,_=>none
 | _,_,_=>none
def xpT {P:Program} {H:List Box} {t:TypeId} {m k r:AV} {c:Bool} (h:absLookL P H t m k c=some r):∃ n ver i j bx,m=.own (.b n) ver i j/\getMap H n ver=some bx:=by
 unfold absLookL at h;split at h
 case h_2=>simp at h
 rename_i n ver i j s kt et O;split at h
 case h_2=>simp at h
 rename_i e2 te bx Q V J q;exact ⟨n,ver,i,j,bx,rfl,q⟩
def absPutM (P:Program) (H:List Box) (t:TypeId) (m k v:AV):Option (List Box):=match m,k,P.underlying t with
 | .own (.b n) ver _ _,.str s,some (.map kt _)=>match P.underlying kt,getMap H n ver with
  | some .string,some bx=>if bx.frz=false/\v.one=true/\v.pure=true/\bx.xs.length<xIV/\s.length<=xIV then some (H.set n ⟨ver,2,bx.ty,xIm bx.xs s v,false,true⟩) else none
  | _,_=>none
 | _,_,_=>none
section
variable {P : Program} {w : World} {A : Nat -> Prop} {M : Id -> Option MB} {B : Nat} {H : List Box}
def xj7 {n ver:Nat} {bx:Box} (h:getMap H n ver=some bx):H[n]?=some bx/\bx.ver=ver/\xH8 bx.ty=true/\xH7 bx.ty 0=false/\xH7 bx.ty 1=false/\bx.sz=2/\bx.pm=true:=by
 unfold getMap at h;split at h
 . split at h
   . rename_i hb hc;cases h;exact ⟨hb,hc⟩
   . simp at h
 . simp at h
def xyw (hR:HR w A M B H) {v:Value} {n ver i j:Nat} {bx:Box} (h:Rel w A M v (.own (.b n) ver i j)) (hb:getMap H n ver=some bx) :
  ∃ m,M (.b n)=some m/\BoxAt w A M B (.b n) m bx/\v=.map (some m.b)/\0<m.cap:=by
 obtain ⟨O,Q,q,_⟩:=xj7 hb;obtain ⟨m,hm,hv,h1,he⟩:=Rel.own_inv h;obtain ⟨bx',h2,h3⟩:=hR.box _ m hm;rw [xcb,O] at h2;cases h2;refine ⟨m,hm,h3,?_⟩;have J:xH8 m.ty=true:=by
  rw [<-h3.ty];unfold rty;split
  . rw [q];exact q
  . exact q
 have h0:=he (by rw [<-Q,h3.ver])
 unfold ptrOf at h0;rw [J] at h0;cases hc:m.cap with
 | zero =>
  rw [hc] at h0;simp only at h0;rw [h0] at h1;cases h1
 | succ k =>
  rw [hc] at h0;exact ⟨h0,Nat.succ_pos k⟩
end
def xrO {s:List UInt8} {v:AV} (h:v.one=true):(AV.agg [.str s,v]).okElem 2=true:=by
 show (true&&(true&&(v.one&&true)))=true;rw [h];rfl
def xgs {P:Program} {k:TypeId} (hk:P.underlying k=some .string) {t:ByteArray} (ht:t.size<=maxLen):keyOf P k (.string t)=some (.string t.data.toList):=by
 simp [keyOf,hk,mapKey,ht]
def xjs {t:ByteArray} (h:t.data.toList.length<=xIV):t.size<=maxLen:=by
 rw [xkT];unfold xIV at h;unfold maxLen;omega
section
variable {P : Program} {w : World} {A : Nat -> Prop} {M : Id -> Option MB} {B : Nat} {H : List Box}
def xvJ (hR:HR w A M B H) {ρc:Operand->Value} {t:TypeId} {om ok:Operand} {c:Bool} {xm xk r:AV} (hm:Rel w A M (ρc om) xm) (hk:Rel w A M (ρc ok) xk) (h:absLookM P H t xm xk c=some r) :
  ∃ v,(Instr.lookup t (ρc om) (ρc ok) c).run P w=.ok v w/\Rel w A M v r:=by
 unfold absLookM at h;split at h
 case h_2=>simp at h
 rename_i n ver i j s kt et af;split at h
 case h_2=>simp at h
 rename_i te bx O Z V;split at h
 case isFalse=>simp at h
 rename_i al;simp only [z6] at h;obtain ⟨m,ap,aj,ac,ab⟩:=xyw hR hm V;obtain ⟨ao,aq,ag,am,ae,ah,ad⟩:=xj7 V;obtain ⟨es,clock,q,_⟩:=aj.mapAt ag am ae ah ad ab;obtain ⟨t0,ak,aa⟩:=hk.str_inv;subst aa;have Q:∀ x∈es.toList,∃ l,keyOf P kt x.key=some l:=fun x hx=>by
  obtain ⟨k,W,rfl⟩:=zp.1 hx;simp only [Array.length_toList] at W;obtain ⟨t',h1,_,h3⟩:=q.keys k es[k] (by simp [W])
  exact ⟨.string t'.data.toList,by simp only [Array.getElem_toList];rw [h1];exact xgs O h3⟩
 obtain ⟨z,hz,ai⟩:=xr6 Z w;have Y:Rel w A M z te.zero:=by rw [ai];exact xdM w A M z
 rw [ac,ak,<-h];rcases xvK c (Maps.string_keyed O) af hz q.heap Q (kl:=.string t0.data.toList) (xgs O (xjs al)) with ⟨h1,h2⟩|⟨j0,e0,h1,h2,h3⟩
 . have J:=q.miss h2;refine ⟨_,h1,?_⟩;cases c
   . simpa [xIo,J] using Y
   . simp only [xIo,xIB,J,if_true,Option.isSome];exact .tuple #[z,.bool false] _ rfl fun i hi=>by
      rcases i with _|_|i
      . exact Y
      . exact .bool false
      . simp at hi;omega
 . obtain ⟨J,an⟩:=q.hit h1 h2;have hv:=(q.vals j0 e0 (by simpa using h1)).lift M
   refine ⟨_,h3,?_⟩;cases c
   . simpa [xIo,J] using hv
   . simp only [xIo,xIB,J,if_true,Option.isSome];exact .tuple #[e0.val,.bool true] _ rfl fun i hi=>by
      rcases i with _|_|i
      . exact hv
      . exact .bool true
      . simp at hi;omega
def xzj (hR:HR w A M B H) {o:Oper} {ρc:Operand->Value} {t:TypeId} {om ok:Operand} {c:Bool} {xm xk r:AV} (ho:o.op=.lookup t om ok c) (hm:Rel w A M (ρc om) xm) (hk:Rel w A M (ρc ok) xk) (h:absLookM P H t xm xk c=some r) :
  Writes P o ρc w A M B r H:=by
 obtain ⟨v,h1,h2⟩:=xvJ hR hm hk h;exact ⟨.value v,w,A,M,v,by simp only [execOp,ho,Sem.run_bind,h1,Result.andThen_ok,Sem.run_pure],.inl rfl,Below.refl _ _,MExt.refl M,fun _ _=>Iff.rfl,fun _ _ _=>rfl,⟨fun _ _ _=>rfl,fun id m' h h0=>.inl ⟨id,m',h,h0,rfl⟩⟩,hR,h2⟩
def xua (hR:HR w A M B H) {ρc:Operand->Value} {t:TypeId} {om ok:Operand} {c:Bool} {xm xk r:AV} (hm:Rel w A M (ρc om) xm) (hk:Rel w A M (ρc ok) xk) (h:absLookL P H t xm xk c=some r) :
  ∃ v,(Instr.lookup t (ρc om) (ρc ok) c).run P w=.ok v w/\Rel w A M v r:=by
 unfold absLookL at h;split at h
 case h_2=>simp at h
 rename_i n ver i j s kt et V;split at h
 case h_2=>simp at h
 rename_i e2 te bx W aa O Q;split at h
 case h_2=>simp at h
 rename_i J hz Z;split at h
 case isFalse=>simp at h
 rename_i hc;obtain ⟨Y,q⟩:=hc;simp only [z6] at h;have hx:∀ v,Rel w A M v (xIo .nils bx.xs s)->Rel w A M v (.list J.sz (lookL bx.xs s)):=fun v hv=>by
  unfold xIB xIo at q;unfold xIo at hv;unfold lookL;cases hi:mapIx bx.xs s with
  | none =>
   rw [hi] at hv;simp only at hv |-;generalize hn:AV.nils=x at hv;cases hv<;>first|(cases hn;done)|skip
   . exact .list0 none 0 J.sz
  | some i =>
   rw [hi] at hv q;simp only [zk,Bool.not_true,Bool.false_or] at hv q |-;obtain ⟨ys,hy⟩:=xgq q;rw [hy] at hv |-;exact hv
 have hM:∀ c,absLookM P H t (.own (.b n) ver i j) (.str s) c=some (match c with
   | true=>.tuple [xIo te.zero bx.xs s,.bool (xIB bx.xs s)]
   | false=>xIo te.zero bx.xs s):=fun c=>by
  unfold absLookM;simp only [V,W,O,Q];exact if_pos Y
 obtain ⟨v,h1,h2⟩:=xvJ hR hm hk (hM c);refine ⟨v,h1,?_⟩;rw [<-h];rw [hz] at h2;cases c with
 | false=>exact hx v h2
 | true =>
  simp only at h2 |-;obtain ⟨vs,rfl,hl,hr⟩:=h2.tuple_inv;refine .tuple vs _ (by simpa using hl) fun i hi=>?_
  rcases i with _|_|i
  . exact hx _ (hr 0 (by simp))
  . exact hr 1 (by simp)
  . simp at hi;omega
def xwE (hR:HR w A M B H) {o:Oper} {ρc:Operand->Value} {t:TypeId} {om ok:Operand} {c:Bool} {xm xk r:AV} (ho:o.op=.lookup t om ok c) (hm:Rel w A M (ρc om) xm) (hk:Rel w A M (ρc ok) xk) (h:absLookL P H t xm xk c=some r) :
  Writes P o ρc w A M B r H:=by
 obtain ⟨v,h1,h2⟩:=xua hR hm hk h;exact ⟨.value v,w,A,M,v,by simp only [execOp,ho,Sem.run_bind,h1,Result.andThen_ok,Sem.run_pure],.inl rfl,Below.refl _ _,MExt.refl M,fun _ _=>Iff.rfl,fun _ _ _=>rfl,⟨fun _ _ _=>rfl,fun id m' h h0=>.inl ⟨id,m',h,h0,rfl⟩⟩,hR,h2⟩
def xtB {xs:List AV} {s:List UInt8} {v:AV}:xs.length<=(xIm xs s v).length/\(xIm xs s v).length<=xs.length+1:=by
 unfold xIm;split<;>simp
def xzq (hR:HR w A M B H) {o:Oper} {ρc:Operand->Value} {t:TypeId} {om ok ov:Operand} {xm xk xv:AV} {H':List Box} (ho:o.op=.mapUpdate t om ok ov\/o.op=.insert t om ok ov) (hm:Rel w A M (ρc om) xm) (hk:Rel w A M (ρc ok) xk) (hv:Rel w A M (ρc ov) xv) (h:absPutM P H t xm xk xv=some H') :
  Writes P o ρc w A M B (.tuple []) H':=by
 unfold absPutM at h;split at h
 case h_2=>simp at h
 rename_i n ver i j s kt et bg;split at h
 case h_2=>simp at h
 rename_i bx am a4;split at h
 case isFalse=>simp at h
 rename_i ba;obtain ⟨a6,ai,ar,af,ag⟩:=ba;cases h;obtain ⟨m,ah,O,a9,ab⟩:=xyw hR hm a4;obtain ⟨a5,bc,ac,aq,al,a0,bj⟩:=xj7 a4;obtain ⟨es,clock,W,hcap⟩:=O.mapAt ac aq al a0 bj ab;obtain ⟨t0,bb,be⟩:=hk.str_inv;subst be;have ap:∀ x∈es.toList,∃ l,keyOf P kt x.key=some l:=fun x hx=>by
  obtain ⟨k,au,rfl⟩:=zp.1 hx;simp only [Array.length_toList] at au;obtain ⟨t',h1,_,h3⟩:=W.keys k es[k] (by simp [au])
  exact ⟨.string t'.data.toList,by simp only [Array.getElem_toList];rw [h1];exact xgs am h3⟩
 have a8:Rel w A xIj (ρc ov) xv:=hv.pure ar;have hsz:m.sz=2:=by rw [<-O.sz];exact a0
 have hsz':bx.xs.length=es.size:=W.size.symm;have hA:A m.b:=(O.guard ab).1 a6;have aw:∃ J Q q,(Instr.mapUpdate t (ρc om) (ρc ok) (ρc ov)).run P w=.ok () (ChangeMaps.setBlock w m.b (.map Q q))/\MapP Q J q/\J.size=(xIm bx.xs t0.data.toList xv).length /\
   (∀ (k:Nat) (x:MapEntry),J[k]?=some x->∃ t:ByteArray,x.key=.string t/\((xIm bx.xs t0.data.toList xv).getD k .top).cells.getD 0 .top=.str t.data.toList/\t.size<=maxLen) /\
   (∀ (k:Nat) (x:MapEntry),J[k]?=some x->Rel w A xIj x.val (((xIm bx.xs t0.data.toList xv).getD k .top).cells.getD 1 .top)) /\
   (∀ (k l:Nat) (x y:MapEntry),J[k]?=some x->J[l]?=some y->x.key=y.key->k=l):=by
  rw [a9,bb];rcases xyr (val:=ρc ov) (Maps.string_keyed am) bg W.heap W.apart ap (kl:=.string t0.data.toList) (xgs am (xjs ag)) with ⟨⟨Q,h1,hP⟩,h2⟩|⟨j0,e0,h1,h2,J,Q,h3,h4,hP⟩
  . have an:=W.miss h2;have hp:xIm bx.xs t0.data.toList xv=bx.xs++[.agg [.str t0.data.toList,xv]]:=by unfold xIm;rw [an]
    have V:∀ (k:Nat) (x:MapEntry),(es.push ⟨.string t0,ρc ov,clock⟩)[k]?=some x->(k<es.size/\es[k]?=some x)\/(k=es.size/\x=⟨.string t0,ρc ov,clock⟩):=fun k x hx=>by
     rw [Array.getElem?_push] at hx;split at hx
     . rename_i e;simp only [z6] at hx;exact .inr ⟨e,hx.symm⟩
     . rcases zJ k es.size with h|h
       . exact .inl ⟨h,hx⟩
       . simp [Array.getElem?_eq_none h] at hx
    refine ⟨_,_,_,h1,hP,by rw [hp];simp [hsz'],fun k x hx=>?_,fun k x hx=>?_,fun k l x y hx hy e=>?_⟩
    . rw [hp];rcases V k x hx with ⟨g1,g2⟩|⟨rfl,rfl⟩
      . obtain ⟨t',a1,a2,a3⟩:=W.keys k x g2;refine ⟨t',a1,?_,a3⟩;rw [<-a2];simp [z7,zP,hsz',g1]
      . exact ⟨t0,rfl,by simp [z7,<-hsz',AV.cells],xjs ag⟩
    . rw [hp];rcases V k x hx with ⟨g1,g2⟩|⟨rfl,rfl⟩
      . have:=W.vals k x g2;simpa [z7,zP,hsz',g1] using this
      . simpa [z7,<-hsz',AV.cells] using a8
    . rcases V k x hx with ⟨g1,g2⟩|⟨rfl,rfl⟩<;>rcases V l y hy with ⟨g3,g4⟩|⟨rfl,rfl⟩
      . exact W.apart k l x y g2 g4 e
      . exact absurd e (h2 x (List.mem_of_getElem? (by simpa using g2)))
      . exact absurd e.symm (h2 y (List.mem_of_getElem? (by simpa using g4)))
      . rfl
  . obtain ⟨an,ax⟩:=W.hit h1 h2;have hp:xIm bx.xs t0.data.toList xv=bx.xs.set j0 (.agg [.str t0.data.toList,xv]):=by unfold xIm;rw [an]
    have V:∀ (k:Nat) (x:MapEntry),J[k]?=some x->(k≠j0/\es[k]?=some x)\/(k=j0/\x={ e0 with key:=.string t0,val:=ρc ov }):=fun k x hx=>by
     rw [<-Array.getElem?_toList,h3,List.getElem?_set] at hx;split at hx
     . rename_i e;subst e;split at hx
       . simp only [z6] at hx;exact .inr ⟨rfl,hx.symm⟩
       . simp at hx
     . rename_i e;exact .inl ⟨fun e'=>e e'.symm,by simpa using hx⟩
    refine ⟨_,_,_,h4,hP,by rw [hp,<-Array.length_toList,h3];simp [hsz'],fun k x hx=>?_,fun k x hx=>?_,fun k l x y hx hy e=>?_⟩
    . rw [hp];rcases V k x hx with ⟨g1,g2⟩|⟨rfl,rfl⟩
      . obtain ⟨t',a1,a2,a3⟩:=W.keys k x g2;refine ⟨t',a1,?_,a3⟩;rw [<-a2];simp [z7,List.getElem?_set,show ¬ j0=k from fun e=>g1 e.symm]
      . exact ⟨t0,rfl,by simp [z7,ax,AV.cells],xjs ag⟩
    . rw [hp];rcases V k x hx with ⟨g1,g2⟩|⟨rfl,rfl⟩
      . have:=W.vals k x g2;simpa [z7,List.getElem?_set,show ¬ j0=k from fun e=>g1 e.symm] using this
      . simpa [z7,ax,AV.cells] using a8
    . have bk:es[j0]?=some e0:=by simpa using h1
      have ay:∀ (k:Nat) (x:MapEntry),J[k]?=some x->∃ y:MapEntry,es[k]?=some y/\y.key=x.key:=fun k x hx=>by
       rcases V k x hx with ⟨g1,g2⟩|⟨rfl,rfl⟩
       . exact ⟨x,g2,rfl⟩
       . exact ⟨e0,bk,h2⟩
      obtain ⟨x',a1,a2⟩:=ay k x hx;obtain ⟨y',b1,b2⟩:=ay l y hy;exact W.apart k l x' y' a1 b1 (by rw [a2,b2,e])
 obtain ⟨J,Q,q,r1,rP,r2,r3,r4,r5⟩:=aw;have bo:=xtB (xs:=bx.xs) (s:=t0.data.toList) (v:=xv);have a7:MapB (ChangeMaps.setBlock w m.b (.map Q q)) m.b J q:=⟨Q,by simp [ChangeMaps.setBlock,O.lt ab],rP⟩
 have aa:∀ b,b≠m.b->(ChangeMaps.setBlock w m.b (.map Q q)).heap[b]?=w.heap[b]?:=fun b hb=>by
  simp [ChangeMaps.setBlock,Array.getElem?_setIfInBounds,Ne.symm hb]
 have ad:(ChangeMaps.setBlock w m.b (.map Q q)).heap.size=w.heap.size:=by simp [ChangeMaps.setBlock]
 have Z:∀ b,b<w.heap.size->¬ A b->(ChangeMaps.setBlock w m.b (.map Q q)).heap[b]?=w.heap[b]?:=fun b _ hb=>aa b fun e=>hb (e▸hA)
 have aj:n<H.length:=xdB a5;have hR':HR (ChangeMaps.setBlock w m.b (.map Q q)) A M B (H.set n ⟨ver,2,bx.ty,xIm bx.xs t0.data.toList xv,false,true⟩):=by
  refine hR.rebuild (fun k=>k=n) (fun k hk _=>zX (fun e=>hk e.symm)) (fun _ _=>rfl) (fun x m0 hx h0 c0=>⟨aa _ fun e=>hx ?_,fun h=>h⟩) Z (by rw [ad];exact zd _) (fun _ _ h=>h) (MExt.refl M) (fun x m0 hx h0=>?_) (fun x m1 x' m2 _ h1 h2 c1 c2 he=>hR.inj x x' m1 m2 h1 h2 c1 c2 he) (fun b hb=>by rw [ad];exact hR.lt b hb)
  . have:=hR.inj x (.b n) m0 m h0 ah c0 ab e;rw [this];rfl
  . cases x with
    | b k =>
     have hx:k=n:=hx;subst hx;rw [ah] at h0;cases h0;have bh:xH8 m.ty=true:=by
      rw [<-O.ty];unfold rty;split
      . rw [ac];exact ac
      . exact ac
     refine ⟨⟨ver,2,bx.ty,xIm bx.xs t0.data.toList xv,false,true⟩,by rw [xcb];exact zL aj,bc.symm.trans O.ver,hsz.symm,O.ty,O.capm,?_,fun y hy=>?_,O.low,fun h0=>by rw [ad];exact O.lt h0,fun h0=>?_,fun _=>⟨fun _=>hA,fun _=>rfl⟩⟩
     . show (xIm bx.xs t0.data.toList xv).length<=m.cap;rw [hcap];unfold xIV at af;unfold maxLen;omega
     . rw [hsz];have Y:(AV.agg [.str t0.data.toList,xv]).okElem 2=true:=xrO ai;have hy:y∈xIm bx.xs t0.data.toList xv:=hy;unfold xIm at hy;split at hy
       . rcases List.mem_or_eq_of_mem_set hy with hy|rfl
         . rw [<-hsz];exact O.ok y hy
         . exact Y
       . rcases zG.1 hy with hy|hy
         . rw [<-hsz];exact O.ok y hy
         . simp only [zv] at hy;subst hy;exact Y
     . let c':Array Value:=Array.ofFn (n:=maxLen*2) fun k=>match J[k.val / 2]? with
        | some x=>if k.val % 2=0 then x.key else x.val
        | none=>undef
       have bp:J.size<=maxLen:=by
        rw [r2];unfold xIV at af;unfold maxLen;omega
       have bn:∀ (k:Nat) (x:MapEntry),J[k]?=some x->k<J.size:=fun k x hx=>by
        rcases zJ k J.size with h|h
        . exact h
        . simp [Array.getElem?_eq_none h] at hx
       have hc':∀ (k:Nat) (x:MapEntry),J[k]?=some x->c'.getD (k*m.sz) undef=x.key/\c'.getD (k*m.sz+1) undef=x.val:=fun k x hx=>by
        have hk:=bn k x hx;rw [hsz];have e1:k*2<maxLen*2:=by omega
        have e2:k*2+1<maxLen*2:=by omega
        constructor
        . rw [zu,Array.getElem?_ofFn,dif_pos e1];simp only [zh,Nat.mul_div_cancel _ (by omega:0<2),hx,Nat.mul_mod_left,if_true]
        . rw [zu,Array.getElem?_ofFn,dif_pos e2];have d1:(k*2+1) / 2=k:=by omega
          have d2:¬ (k*2+1) % 2=0:=by omega
          simp only [zh,d1,hx,d2,if_false]
       refine ⟨c',?_,by rw [hcap,hsz];exact Array.size_ofFn,fun i j hi hj=>?_⟩
       . unfold HoldsC;rw [bh];exact ⟨J,q,a7,r2,hcap,hc',fun k x hx=>by obtain ⟨t',a1,_,a3⟩:=r3 k x hx;exact ⟨t',a1,a3⟩,r5⟩
       . have hi':i<J.size:=by rw [r2];exact hi
         obtain ⟨x,hx⟩:∃ x,J[i]?=some x:=⟨J[i],by simp [hi']⟩
         rw [hsz] at hj;have ag:∀ j,j<2->xH7 bx.ty j=false:=fun j hj=>by
          rcases j with _|_|j
          . exact aq
          . exact al
          . omega
         unfold MV xIu;simp only [ag j hj];show Rel _ A xIj _ _;have ao:∀ {v:Value} {x:AV},Rel w A xIj v x->Rel (ChangeMaps.setBlock w m.b (.map Q q)) A xIj v x:=fun h=>h.mono Z (by rw [ad];exact zd _) (fun _ _ h=>h) (MExt.refl _)
         rcases j with _|_|j
         . rw [Nat.add_zero,(hc' i x hx).1];obtain ⟨t',a1,a2,_⟩:=r3 i x hx;show Rel _ A xIj _ (((xIm bx.xs t0.data.toList xv).getD i .top).cells.getD 0 .top);rw [a1,a2];exact .str t'
         . rw [(hc' i x hx).2];exact ao (r4 i x hx)
         . omega
    | r k i' j' =>
     have hx:k=n:=hx;subst hx;obtain ⟨rb,k1,k2⟩:=hR.box _ m0 h0;have az:isC bx.ty=true:=by
      cases hc:isC bx.ty with
      | true=>rfl
      | false=>rw [xa6 hc] at ac;cases ac
     obtain ⟨e2,e3,e4,e5⟩:=xgi a5 az k1;have bq:2<=j':=by
      rcases j' with _|_|j'
      . rw [aq] at e2;cases e2
      . rw [al] at e2;cases e2
      . omega
     have ak:∀ (xs:List AV),(∀ x,x∈xs->x.okElem 2=true)->(xs.getD i' .top).cells.getD j' .top=.top:=fun xs bf=>by
      rcases zJ i' xs.length with h|h
      . have:=xa3 (bf _ (xbe h));rw [z7 (l:=(xs.getD i' .top).cells),zz (by omega)];rfl
      . have:xs.getD i' .top=.top:=by rw [z7,zz h];rfl
        rw [this,z7,zz (by simp [AV.cells];omega)];rfl
     have ae:∀ x,x∈bx.xs->x.okElem 2=true:=fun x hx=>by rw [<-hsz];exact O.ok x hx
     refine ⟨rb,?_,k2.mono (fun bi=>aa _ fun e=>?_) Z (by rw [ad];exact zd _) (fun _ _ h=>h) k2.guard (MExt.refl M)⟩
     . rw [xdK (zL aj) (by exact az) (by exact e2) rfl (by show i'<(xIm bx.xs t0.data.toList xv).length;omega)]
       rw [e5,ak bx.xs ae];have Y:((xIm bx.xs t0.data.toList xv).getD i' .top).cells.getD j' .top=.top:=ak _ fun y hy=>by
        have Y:(AV.agg [.str t0.data.toList,xv]).okElem 2=true:=xrO ai;unfold xIm at hy;split at hy
        . rcases List.mem_or_eq_of_mem_set hy with hy|rfl
          . exact ae y hy
          . exact Y
        . rcases zG.1 hy with hy|hy
          . exact ae y hy
          . simp only [zv] at hy;subst hy;exact Y
       have e6:xIy ⟨ver,2,bx.ty,xIm bx.xs t0.data.toList xv,false,true⟩ .top=xIy bx .top:=by simp [xIy,a6]
       exact congrArg some ((congrArg (xIy ⟨ver,2,bx.ty,xIm bx.xs t0.data.toList xv,false,true⟩) Y).trans e6)
     . have:=hR.inj _ (.b k) m0 m h0 ah bi ab e;cases this
 refine ⟨.skip,ChangeMaps.setBlock w m.b (.map Q q),A,M,undef,?_,.inr ⟨rfl,rfl⟩,⟨rfl,rfl,rfl,by rw [ad];exact zd _,fun k hk=>aa k fun e=>by have:=O.low ab;omega⟩,MExt.refl M,fun _ _=>Iff.rfl,Z,⟨fun b _ hb=>aa b fun e=>hb (.b n) m ah ab e.symm,fun id m' h h0=>.inl ⟨id,m',h,h0,rfl⟩⟩,hR',.tuple #[] [] rfl (by simp)⟩
 rcases ho with ho|ho<;>simp only [execOp,ho,Sem.run_bind,r1,Result.andThen_ok,Sem.run_pure]
def getMapR (H:List Box) (n:Nat) (ver:Nat):Option Box:=match H[n]? with
 | some bx=>if bx.ver=ver/\xH8 bx.ty=true/\xH7 bx.ty 0=false/\xH7 bx.ty 1=true/\bx.sz=2/\bx.pm=true then some bx else none
 | none=>none
def xi7 {H:List Box} {n ver:Nat} {bx:Box} (h:getMapR H n ver=some bx):H[n]?=some bx/\bx.ver=ver/\xH8 bx.ty=true/\xH7 bx.ty 0=false/\xH7 bx.ty 1=true/\bx.sz=2/\bx.pm=true:=by
 unfold getMapR at h;split at h
 . split at h
   . rename_i hb hc;cases h;exact ⟨hb,hc⟩
   . simp at h
 . simp at h
structure MapKs (w:World) (m:MB) (xs:List AV) (es:Array MapEntry) (clock:Nat):Prop where
 heap:MapB w m.b es clock
 size:es.size=xs.length
 keys:∀ (k:Nat) (x:MapEntry),es[k]?=some x->∃ t:ByteArray,x.key=.string t/\(xs.getD k .top).cells.getD 0 .top=.str t.data.toList/\t.size<=maxLen
 apart:∀ (k l:Nat) (x y:MapEntry),es[k]?=some x->es[l]?=some y->x.key=y.key->k=l
def MapKs.miss {w:World} {m:MB} {xs:List AV} {es:Array MapEntry} {clock:Nat} (h:MapKs w m xs es clock) {t:ByteArray} (q:∀ x∈es.toList,x.key≠.string t):mapIx xs t.data.toList=none :=
 xpt fun i hi=>by
  have hi':i<es.size:=by rw [h.size];exact hi
  obtain ⟨t',h1,h2,_⟩:=h.keys i es[i] (by simp [hi'])
  rw [h2];show (t'.data.toList==t.data.toList)=false;rw [beq_eq_false_iff_ne];intro e;exact q es[i] (by simp) (by rw [h1,xoe e])
def MapKs.hit {w:World} {m:MB} {xs:List AV} {es:Array MapEntry} {clock:Nat} (h:MapKs w m xs es clock) {t:ByteArray} {j:Nat} {e0:MapEntry} (hj:es.toList[j]?=some e0) (hk:e0.key=.string t):mapIx xs t.data.toList=some j/\j<xs.length:=by
 have q:es[j]?=some e0:=by simpa using hj
 have hj':j<es.size:=by
  rcases zJ j es.size with h|h
  . exact h
  . simp [Array.getElem?_eq_none h] at q
 have J:j<xs.length:=by rw [<-h.size];exact hj'
 refine ⟨xni J ?_ fun i hi=>?_,J⟩
 . obtain ⟨t',h1,h2,_⟩:=h.keys j e0 q;rw [h2];rw [hk] at h1;injection h1 with h1;rw [h1];show (t'.data.toList==t'.data.toList)=true;exact beq_self_eq_true _
 . have hi':i<es.size:=by omega
   obtain ⟨t',h1,h2,_⟩:=h.keys i es[i] (by simp [hi'])
   rw [h2];show (t'.data.toList==t.data.toList)=false;rw [beq_eq_false_iff_ne];intro e;have:=h.apart i j es[i] e0 (by simp [hi']) q (by rw [h1,hk,xoe e])
   omega
def xnf {t:TypeId} (h:xH8 t=true):xH8 (rty t)=true:=by
 unfold rty;split
 . rw [h];exact h
 . exact h
def BoxAt.mapKs {w:World} {A:Nat->Prop} {M:Id->Option MB} {B:Nat} {id:Id} {m:MB} {bx:Box} (h:BoxAt w A M B id m bx) (hm:xH8 bx.ty=true) (h0:xH7 bx.ty 0=false) (hs:bx.sz=2) (hp:bx.pm=true) (hcap:0<m.cap) :
  ∃ es clock,MapKs w m bx.xs es clock/\m.cap=maxLen/\∀ (k:Nat) (x:MapEntry),es[k]?=some x->Rel w A (MV M bx 1) x.val (xIu id.base k 1 bx.ty ((bx.xs.getD k .top).cells.getD 1 .top)):=by
 obtain ⟨c,c1,c2,c3⟩:=h.cells hcap;have J:xH8 m.ty=true:=by rw [<-h.ty];exact xnf hm
 unfold HoldsC at c1;rw [J] at c1;obtain ⟨es,clock,d1,d2,d3,d4,d5,d6⟩:=c1;have hsz:m.sz=2:=by rw [<-h.sz];exact hs
 have q:∀ (k:Nat) (x:MapEntry),es[k]?=some x->k<bx.xs.length:=fun k x hx=>by
  rw [<-d2];rcases zJ k es.size with h|h
  . exact h
  . simp [Array.getElem?_eq_none h] at hx
 refine ⟨es,clock,⟨d1,d2,fun k x hx=>?_,d6⟩,d3,fun k x hx=>?_⟩
 . obtain ⟨t,ht,O⟩:=d5 k x hx;have hk:=q k x hx;have h4:=c3 k 0 hk (by rw [hsz];omega)
   unfold MV xIu at h4;simp only [h0,hp] at h4;rw [Nat.add_zero,(d4 k x hx).1,ht] at h4;exact ⟨t,ht,xsT h4 (xug h.ok hk (by rw [hsz];omega)) (fun id ver i j e=>by rw [e] at h4;obtain ⟨_,hh,_⟩:=Rel.own_inv h4;cases hh) (fun id ver i j e=>by rw [e] at h4;obtain ⟨_,hh,_⟩:=Rel.osl_inv h4;cases hh),O⟩
 . have h4:=c3 k 1 (q k x hx) (by rw [hsz];omega)
   rw [(d4 k x hx).2] at h4;exact h4
def absLookR (P:Program) (H:List Box) (t:TypeId) (m k:AV) (c:Bool):Option AV:=match m,k,P.underlying t with
 | .own (.b n) ver _ _,.str s,some (.map kt et)=>match P.underlying kt,xH5 P et,getMapR H n ver with
  | some .string,some te,some bx=>if s.length<=xIV then some (match mapIx bx.xs s with
   | some i=>match c with
    | true=>.tuple [xJa n i 1 ((bx.xs.getD i .top).cells.getD 1 .top),.bool true]
    | false=>xJa n i 1 ((bx.xs.getD i .top).cells.getD 1 .top)
   | none=>match c with
    | true=>.tuple [te.zero,.bool false]
    | false=>te.zero) else none
  | _,_,_=>none
 | _,_,_=>none
def lookLR {P:Program} {H:List Box} {t:TypeId} {m k r:AV} {c:Bool} (h:absLookR P H t m k c=some r):absLookL P H t m k c=none:=by
 cases hl:absLookL P H t m k c with
 | none=>rfl
 | some r' =>
  exfalso;obtain ⟨n,ver,i,j,bx,rfl,hb⟩:=xpT hl;obtain ⟨b1,b2,b3,b4,b5,_⟩:=xj7 hb;unfold absLookR at h;split at h
  case h_2=>simp at h
  rename AV.own (Id.b n) ver i j=_=>heq
  cases heq;split at h
  case h_2=>simp at h
  rename_i q;obtain ⟨c1,c2,c3,c4,c5,_⟩:=xi7 q;rw [b1] at c1;cases c1;rw [b5] at c5;cases c5
def deadR (xs:List AV) (s:List UInt8) (n:Nat):Bool:=match mapIx xs s with
 | some i=>match deadLen ((xs.getD i .top).cells.getD 1 .top) with
  | some l0=>decide (l0<n)
  | none=>false
 | none=>true
def absPutR (P:Program) (H:List Box) (t:TypeId) (m k v:AV):Option (List Box):=match m,k,v,P.underlying t with
 | .own (.b n) ver _ _,.str s,.osl (.b id) ver2 off len,some (.map kt _)=>match P.underlying kt,getMapR H n ver,xH9 H (.b id) ver2 with
  | some .string,some bx,some b2=>if bx.frz=false/\b2.frz=false/\b2.pm=true/\isC b2.ty=false/\b2.ty=rowTy bx.ty/\off=0/\len=b2.xs.length/\bx.xs.length<xIV/\s.length<=xIV/\deadR bx.xs s len=true then
   some ((H.set id ⟨ver2+1,b2.sz,b2.ty,[],false,true⟩).set n ⟨ver,2,bx.ty,xIm bx.xs s (.list b2.sz b2.xs),false,true⟩) else none
  | _,_,_=>none
 | _,_,_,_=>none
def xjd:∀ {xs:List AV} {s:List UInt8} {i:Nat},mapIx xs s=some i->i<xs.length
 | [],s,i,h=>by simp [mapIx] at h
 | e::es,s,i,h=>by
  simp only [mapIx] at h;split at h
  . cases h;simp
  . cases hm:mapIx es s with
    | none=>rw [hm] at h;simp at h
    | some j =>
     rw [hm] at h;simp only [Option.map_some,z6] at h;have:=xjd hm;subst h;simp;omega
def putIx (xs:List AV) (s:List UInt8):Nat:=match mapIx xs s with
 | some i=>i
 | none=>xs.length
def xlj {xs:List AV} {s:List UInt8} {v:AV} (k:Nat):(xIm xs s v).getD k .top=if k=putIx xs s then .agg [.str s,v] else xs.getD k .top:=by
 unfold xIm putIx;cases h:mapIx xs s with
 | some i =>
  have:=xjd h;by_cases hk:k=i
  . subst hk;simp [z7,this]
  . simp [z7,List.getElem?_set,hk,show ¬ i=k from fun e=>hk e.symm]
 | none =>
  by_cases hk:k=xs.length
  . subst hk;simp [z7]
  . simp only [hk,if_false];rcases zJ k xs.length with g|g
    . simp [z7,zP,g]
    . rw [z7,z7,zz (by simp;omega),zz g]
def xCs {xs:List AV} {s:List UInt8} {v:AV}:putIx xs s<(xIm xs s v).length:=by
 unfold xIm putIx;cases h:mapIx xs s with
 | some i=>have:=xjd h;simpa using this
 | none=>simp
section
variable {P : Program} {w : World} {A : Nat -> Prop} {M : Id -> Option MB} {B : Nat} {H : List Box}
def xvT (hR:HR w A M B H) {v:Value} {n ver i j:Nat} {bx:Box} (h:Rel w A M v (.own (.b n) ver i j)) (hb:getMapR H n ver=some bx) :
  ∃ m,M (.b n)=some m/\BoxAt w A M B (.b n) m bx/\v=.map (some m.b)/\0<m.cap:=by
 obtain ⟨J,Q,O,_⟩:=xi7 hb;obtain ⟨m,hm,hv,h1,he⟩:=Rel.own_inv h;obtain ⟨bx',h2,h3⟩:=hR.box _ m hm;rw [xcb,J] at h2;cases h2;refine ⟨m,hm,h3,?_⟩;have q:xH8 m.ty=true:=by rw [<-h3.ty];exact xnf O
 have h0:=he (by rw [<-Q,h3.ver])
 unfold ptrOf at h0;rw [q] at h0;cases hc:m.cap with
 | zero =>
  rw [hc] at h0;simp only at h0;rw [h0] at h1;cases h1
 | succ k =>
  rw [hc] at h0;exact ⟨h0,Nat.succ_pos k⟩
def xub (hR:HR w A M B H) {ρc:Operand->Value} {t:TypeId} {om ok:Operand} {c:Bool} {xm xk r:AV} (hm:Rel w A M (ρc om) xm) (hk:Rel w A M (ρc ok) xk) (h:absLookR P H t xm xk c=some r) :
  ∃ v,(Instr.lookup t (ρc om) (ρc ok) c).run P w=.ok v w/\Rel w A M v r:=by
 unfold absLookR at h;split at h
 case h_2=>simp at h
 rename_i n ver i j s kt et ag;split at h
 case h_2=>simp at h
 rename_i te bx O aa W;split at h
 case isFalse=>simp at h
 rename_i am;simp only [z6] at h;obtain ⟨m,aq,ak,ad,ac⟩:=xvT hR hm W;obtain ⟨ap,ar,ah,an,af,ai,ae⟩:=xi7 W;obtain ⟨es,clock,q,_,J⟩:=ak.mapKs ah an ai ae ac;obtain ⟨t0,al,ab⟩:=hk.str_inv;subst ab;have V:∀ x∈es.toList,∃ l,keyOf P kt x.key=some l:=fun x hx=>by
  obtain ⟨k,Y,rfl⟩:=zp.1 hx;simp only [Array.length_toList] at Y;obtain ⟨t',h1,_,h3⟩:=q.keys k es[k] (by simp [Y])
  exact ⟨.string t'.data.toList,by simp only [Array.getElem_toList];rw [h1];exact xgs O h3⟩
 obtain ⟨z,hz,aj⟩:=xr6 aa w;have Z:Rel w A M z te.zero:=by rw [aj];exact xdM w A M z
 rw [ad,al,<-h];rcases xvK c (Maps.string_keyed O) ag hz q.heap V (kl:=.string t0.data.toList) (xgs O (xjs am)) with ⟨h1,h2⟩|⟨j0,e0,h1,h2,h3⟩
 . have Q:=q.miss h2;refine ⟨_,h1,?_⟩;rw [Q];cases c
   . simpa using Z
   . simp only [if_true];exact .tuple #[z,.bool false] _ rfl fun i hi=>by
      rcases i with _|_|i
      . exact Z
      . exact .bool false
      . simp at hi;omega
 . obtain ⟨Q,ao⟩:=q.hit h1 h2;have hv:=(J j0 e0 (by simpa using h1)).unmv
   unfold xIu at hv;rw [af] at hv;change Rel w A M e0.val (xJa n j0 1 ((bx.xs.getD j0 .top).cells.getD 1 .top)) at hv;refine ⟨_,h3,?_⟩;rw [Q];cases c
   . simpa using hv
   . simp only [if_true];exact .tuple #[e0.val,.bool true] _ rfl fun i hi=>by
      rcases i with _|_|i
      . exact hv
      . exact .bool true
      . simp at hi;omega
def xwF (hR:HR w A M B H) {o:Oper} {ρc:Operand->Value} {t:TypeId} {om ok:Operand} {c:Bool} {xm xk r:AV} (ho:o.op=.lookup t om ok c) (hm:Rel w A M (ρc om) xm) (hk:Rel w A M (ρc ok) xk) (h:absLookR P H t xm xk c=some r) :
  Writes P o ρc w A M B r H:=by
 obtain ⟨v,h1,h2⟩:=xub hR hm hk h;exact ⟨.value v,w,A,M,v,by simp only [execOp,ho,Sem.run_bind,h1,Result.andThen_ok,Sem.run_pure],.inl rfl,Below.refl _ _,MExt.refl M,fun _ _=>Iff.rfl,fun _ _ _=>rfl,⟨fun _ _ _=>rfl,fun id m' h h0=>.inl ⟨id,m',h,h0,rfl⟩⟩,hR,h2⟩
def MapKs.put {m:MB} {xs:List AV} {es:Array MapEntry} {clock:Nat} (O:MapKs w m xs es clock) {t kt et:TypeId} (ae:P.underlying t=some (.map kt et)) (Y:P.underlying kt=some .string) {t0:ByteArray} (aa:t0.data.toList.length<=xIV) (val:Value) (v:AV) :
  ∃ Q W clock',(Instr.mapUpdate t (.map (some m.b)) (.string t0) val).run P w=.ok () (ChangeMaps.setBlock w m.b (.map W clock'))/\MapP W Q clock'/\Q.size=(xIm xs t0.data.toList v).length /\
   (∀ (k:Nat) (x:MapEntry),Q[k]?=some x->∃ t:ByteArray,x.key=.string t/\((xIm xs t0.data.toList v).getD k .top).cells.getD 0 .top=.str t.data.toList/\t.size<=maxLen) /\
   (∀ (k l:Nat) (x y:MapEntry),Q[k]?=some x->Q[l]?=some y->x.key=y.key->k=l) /\
   (∀ (k:Nat) (x:MapEntry),Q[k]?=some x->(k≠putIx xs t0.data.toList/\es[k]?=some x)\/(k=putIx xs t0.data.toList/\x.val=val)):=by
 have hsz':xs.length=es.size:=O.size.symm;have Z:∀ x∈es.toList,∃ l,keyOf P kt x.key=some l:=fun x hx=>by
  obtain ⟨k,ab,rfl⟩:=zp.1 hx;simp only [Array.length_toList] at ab;obtain ⟨t',h1,_,h3⟩:=O.keys k es[k] (by simp [ab])
  exact ⟨.string t'.data.toList,by simp only [Array.getElem_toList];rw [h1];exact xgs Y h3⟩
 rcases xyr (val:=val) (Maps.string_keyed Y) ae O.heap O.apart Z (kl:=.string t0.data.toList) (xgs Y (xjs aa)) with ⟨⟨W,h1,hP⟩,h2⟩|⟨j0,e0,h1,h2,Q,W,h3,h4,hP⟩
 . have V:=O.miss h2;have J:putIx xs t0.data.toList=xs.length:=by unfold putIx;rw [V]
   have hp:(xIm xs t0.data.toList v).length=xs.length+1:=by unfold xIm;rw [V];simp
   have q:∀ (k:Nat) (x:MapEntry),(es.push ⟨.string t0,val,clock⟩)[k]?=some x->(k<es.size/\es[k]?=some x)\/(k=es.size/\x=⟨.string t0,val,clock⟩):=fun k x hx=>by
    rw [Array.getElem?_push] at hx;split at hx
    . rename_i e;simp only [z6] at hx;exact .inr ⟨e,hx.symm⟩
    . rcases zJ k es.size with h|h
      . exact .inl ⟨h,hx⟩
      . simp [Array.getElem?_eq_none h] at hx
   refine ⟨_,_,_,h1,hP,by rw [hp];simp [hsz'],fun k x hx=>?_,fun k l x y hx hy e=>?_,fun k x hx=>?_⟩
   . rw [xlj,J];rcases q k x hx with ⟨g1,g2⟩|⟨rfl,rfl⟩
     . obtain ⟨t',a1,a2,a3⟩:=O.keys k x g2;exact ⟨t',a1,by rw [if_neg (by omega)];exact a2,a3⟩
     . exact ⟨t0,rfl,by rw [if_pos hsz'.symm];rfl,xjs aa⟩
   . rcases q k x hx with ⟨g1,g2⟩|⟨rfl,rfl⟩<;>rcases q l y hy with ⟨g3,g4⟩|⟨rfl,rfl⟩
     . exact O.apart k l x y g2 g4 e
     . exact absurd e (h2 x (List.mem_of_getElem? (by simpa using g2)))
     . exact absurd e.symm (h2 y (List.mem_of_getElem? (by simpa using g4)))
     . rfl
   . rcases q k x hx with ⟨g1,g2⟩|⟨rfl,rfl⟩
     . exact .inl ⟨by rw [J];omega,g2⟩
     . exact .inr ⟨by rw [J];exact hsz'.symm,rfl⟩
 . obtain ⟨V,af⟩:=O.hit h1 h2;have J:putIx xs t0.data.toList=j0:=by unfold putIx;rw [V]
   have hp:(xIm xs t0.data.toList v).length=xs.length:=by unfold xIm;rw [V];simp
   have q:∀ (k:Nat) (x:MapEntry),Q[k]?=some x->(k≠j0/\es[k]?=some x)\/(k=j0/\x={ e0 with key:=.string t0,val:=val }):=fun k x hx=>by
    rw [<-Array.getElem?_toList,h3,List.getElem?_set] at hx;split at hx
    . rename_i e;subst e;split at hx
      . simp only [z6] at hx;exact .inr ⟨rfl,hx.symm⟩
      . simp at hx
    . rename_i e;exact .inl ⟨fun e'=>e e'.symm,by simpa using hx⟩
   refine ⟨_,_,_,h4,hP,by rw [hp,<-Array.length_toList,h3];simp [hsz'],fun k x hx=>?_,fun k l x y hx hy e=>?_,fun k x hx=>?_⟩
   . rw [xlj,J];rcases q k x hx with ⟨g1,g2⟩|⟨rfl,rfl⟩
     . obtain ⟨t',a1,a2,a3⟩:=O.keys k x g2;exact ⟨t',a1,by rw [if_neg g1];exact a2,a3⟩
     . exact ⟨t0,rfl,by rw [if_pos rfl];rfl,xjs aa⟩
   . have ad:es[j0]?=some e0:=by simpa using h1
     have ac:∀ (k:Nat) (x:MapEntry),Q[k]?=some x->∃ y:MapEntry,es[k]?=some y/\y.key=x.key:=fun k x hx=>by
      rcases q k x hx with ⟨g1,g2⟩|⟨rfl,rfl⟩
      . exact ⟨x,g2,rfl⟩
      . exact ⟨e0,ad,h2⟩
     obtain ⟨x',a1,a2⟩:=ac k x hx;obtain ⟨y',b1,b2⟩:=ac l y hy;exact O.apart k l x' y' a1 b1 (by rw [a2,b2,e])
   . rcases q k x hx with ⟨g1,g2⟩|⟨rfl,rfl⟩
     . exact .inl ⟨by rw [J];exact g1,g2⟩
     . exact .inr ⟨J.symm,rfl⟩
end
section
variable {P : Program} {w : World} {A : Nat -> Prop} {M : Id -> Option MB} {B : Nat} {H : List Box}
def xzs (hR:HR w A M B H) {o:Oper} {ρc:Operand->Value} {t:TypeId} {om ok ov:Operand} {xm xk xv:AV} {H':List Box} (ho:o.op=.mapUpdate t om ok ov\/o.op=.insert t om ok ov) (hm:Rel w A M (ρc om) xm) (hk:Rel w A M (ρc ok) xk) (hv:Rel w A M (ρc ov) xv) (h:absPutR P H t xm xk xv=some H') :
  Writes P o ρc w A M B (.tuple []) H':=by
 unfold absPutR at h;split at h
 case h_2=>simp at h
 rename_i n ver i j s id ac off len kt et ck;split at h
 case h_2=>simp at h
 rename_i bx b2 b6 bk a5;split at h
 case isFalse=>simp at h
 rename_i b9;obtain ⟨bp,bw,bq,ah,bu,rfl,rfl,bc,cm,Q⟩:=b9;cases h;obtain ⟨m,a9,Z,b5,ao⟩:=xvT hR hm bk;obtain ⟨ay,cf,bo,bj,ap,bi,co⟩:=xi7 bk;obtain ⟨es,clock,b7,hcap,bf⟩:=Z.mapKs bo bj bi co ao;obtain ⟨t0,ce,ch⟩:=hk.str_inv;subst ch;obtain ⟨m2,a2,am,W,b0,cu,cr⟩:=xjh hR hv a5;obtain ⟨ai,a0⟩:=xbi a5;rw [xcb] at ai;have aq:isC bx.ty=true:=xfq ap;have hne:id≠n:=fun e=>by
  subst e;rw [ay] at ai;cases ai;rw [ah] at aq;cases aq
 have hsz:m.sz=2:=by rw [<-Z.sz];exact bi
 have hA:A m.b:=(Z.guard ao).1 bp;have cn:xH8 m.ty=true:=by rw [<-Z.ty];exact xnf bo
 obtain ⟨ab,ae,q,r1,rP,r2,r3,r5,r4⟩:=b7.put ck b6 cm (ρc ov) (.list b2.sz b2.xs);generalize Y:putIx bx.xs t0.data.toList=ix at r4;have bv:MapB (ChangeMaps.setBlock w m.b (.map ae q)) m.b ab q:=⟨ae,by simp [ChangeMaps.setBlock,Z.lt ao],rP⟩
 have ak:∀ b,b≠m.b->(ChangeMaps.setBlock w m.b (.map ae q)).heap[b]?=w.heap[b]?:=fun b hb=>by
  simp [ChangeMaps.setBlock,Array.getElem?_setIfInBounds,Ne.symm hb]
 have aj:(ChangeMaps.setBlock w m.b (.map ae q)).heap.size=w.heap.size:=by simp [ChangeMaps.setBlock]
 have V:∀ b,b<w.heap.size->¬ A b->(ChangeMaps.setBlock w m.b (.map ae q)).heap[b]?=w.heap[b]?:=fun b _ hb=>ak b fun e=>hb (e▸hA)
 have bn:n<H.length:=xdB ay;have b8:id<H.length:=xdB ai;let M':Id->Option MB:=fun x=>if x=.b id then some ⟨m2.b,m2.ver+1,m2.sz,0,m2.ty⟩ else if x=.r n ix 1 then some ⟨m2.b,2*b2.xs.length,m2.sz,m2.cap,m2.ty⟩ else M x
 have au:M' (.b id)=some ⟨m2.b,m2.ver+1,m2.sz,0,m2.ty⟩:=by simp [M']
 have an:M' (.r n ix 1)=some ⟨m2.b,2*b2.xs.length,m2.sz,m2.cap,m2.ty⟩:=by simp [M']
 have ag:∀ x:Id,x≠.b id->x≠.r n ix 1->M' x=M x:=fun x h1 h2=>by simp [M',h1,h2]
 have bg:∀ m0,M (.r n ix 1)=some m0->m0.ver<2*b2.xs.length:=fun m0 h0=>by
  obtain ⟨rb,k1,k2⟩:=hR.box _ m0 h0;obtain ⟨k4,k5,k6,k7⟩:=xgi ay aq k1;have k8:=k2.ver;rw [k7] at k8;unfold putIx at Y;unfold deadR at Q;cases hi:mapIx bx.xs t0.data.toList with
  | none =>
   rw [hi] at Y;simp only at Y;omega
  | some i =>
   rw [hi] at Y Q;simp only at Y Q;subst Y;unfold deadLen at Q;split at Q
   . rename_i l0 a6;split at a6
     . rename_i kk l hl;simp only [z6] at a6;simp only [zl] at Q;rw [hl] at k8;simp only [xIy,rowLen] at k8;omega
     . simp at a6
   . simp at Q
 have ad:MExt M M':=fun x m0 h0=>by
  by_cases e1:x=.b id
  . subst e1;rw [am] at h0;cases h0;exact ⟨_,au,.inr (Nat.lt_succ_self _)⟩
  . by_cases e2:x=.r n ix 1
    . subst e2;exact ⟨_,an,.inr (bg m0 h0)⟩
    . exact ⟨m0,by rw [ag x e1 e2];exact h0,.inl rfl⟩
 have ar:∀ x m',M' x=some m'->0<m'.cap->∃ y m0,M y=some m0/\m0.b=m'.b/\m0.cap=m'.cap/\(x=.r n ix 1/\y=.b id\/x=y/\y≠.b id/\y≠.r n ix 1):=fun x m' h h0=>by
  by_cases e1:x=.b id
  . subst e1;rw [au] at h;cases h;exact absurd h0 (by simp)
  . by_cases e2:x=.r n ix 1
    . subst e2;rw [an] at h;cases h;exact ⟨_,m2,am,rfl,rfl,.inl ⟨rfl,rfl⟩⟩
    . rw [ag x e1 e2] at h;exact ⟨x,m',h,rfl,rfl,.inr ⟨rfl,e1,e2⟩⟩
 have bh:∀ (x:Id) m1 x' m2,M' x=some m1->M' x'=some m2->0<m1.cap->0<m2.cap->m1.b=m2.b->x=x':=fun x m1 x' m2 h1 h2 c1 c2 he=>by
  obtain ⟨y,n1,a1,a2,a3,a4⟩:=ar x m1 h1 c1;obtain ⟨y',n2,b1,b2,b3,b4⟩:=ar x' m2 h2 c2;have:=hR.inj y y' n1 n2 a1 b1 (by omega) (by omega) (by rw [a2,b2,he])
  subst this;rcases a4 with ⟨rfl,e1⟩|⟨rfl,e1,_⟩<;>rcases b4 with ⟨rfl,e2⟩|⟨rfl,e2,_⟩
  . rfl
  . exact absurd e1 e2
  . exact absurd e2 e1
  . rfl
 have af:∀ (x:Id) m0,x≠.b n->M x=some m0->0<m0.cap->(ChangeMaps.setBlock w m.b (.map ae q)).heap[m0.b]?=w.heap[m0.b]?:=fun x m0 hx h0 c0=>ak m0.b fun e=>hx (hR.inj x (.b n) m0 m h0 a9 c0 ao e)
 generalize aa:xIm bx.xs t0.data.toList (.list b2.sz b2.xs)=O at r2 r3;have az:∀ k,O.getD k .top=if k=ix then .agg [.str t0.data.toList,.list b2.sz b2.xs] else bx.xs.getD k .top:=fun k=>by rw [<-aa,<-Y];exact xlj k
 have cq:O.length<=bx.xs.length+1:=by rw [<-aa];exact xtB.2
 have cb:bx.xs.length<=O.length:=by rw [<-aa];exact xtB.1
 have a8:ix<O.length:=by rw [<-aa,<-Y];exact xCs
 have cj:ix<=bx.xs.length:=by
  rw [<-Y];unfold putIx;cases hi:mapIx bx.xs t0.data.toList with
  | none=>exact zd _
  | some i=>exact Nat.le_of_lt (xjd hi)
 have ax:∀ k,k<O.length->k≠ix->k<bx.xs.length:=fun k hk hne=>by
  unfold xIm at aa;unfold putIx at Y;cases hi:mapIx bx.xs t0.data.toList with
  | none=>rw [hi] at Y;simp only at Y;omega
  | some i=>rw [hi] at aa;rw [<-aa] at hk;simpa using hk
 have be:((H.set id ⟨ac+1,b2.sz,b2.ty,[],false,true⟩).set n ⟨ver,2,bx.ty,O,false,true⟩)[n]?=some ⟨ver,2,bx.ty,O,false,true⟩:=zL (by simpa using bn)
 have bt:((H.set id ⟨ac+1,b2.sz,b2.ty,[],false,true⟩).set n ⟨ver,2,bx.ty,O,false,true⟩)[id]?=some ⟨ac+1,b2.sz,b2.ty,[],false,true⟩:=by
  rw [zX (Ne.symm hne),zL b8]
 have bb:∀ k,xH7 bx.ty k=true->k=1:=fun k hk=>by rw [xns hk,<-xns ap]
 have hR':HR (ChangeMaps.setBlock w m.b (.map ae q)) A M' B ((H.set id ⟨ac+1,b2.sz,b2.ty,[],false,true⟩).set n ⟨ver,2,bx.ty,O,false,true⟩):=by
  refine hR.rebuild (fun k=>k=n\/k=id) (fun k hk ct=>?_) (fun x J=>ag x (fun e=>J (.inr (by rw [e];rfl))) fun e=>J (.inl (by rw [e];rfl))) (fun x m0 J h0 c0=>⟨af x m0 (fun e=>J (.inl (by rw [e];rfl))) h0 c0,fun h=>h⟩) V (by rw [aj];exact zd _) (fun _ _ h=>h) ad (fun x m' hS J=>?_) (fun x m1 x' m2 _ h1 h2 c1 c2 he=>bh x m1 x' m2 h1 h2 c1 c2 he) (fun b hb=>by rw [aj];exact hR.lt b hb)
  . rw [zX (fun e=>hk (.inl e.symm)),zX (fun e=>hk (.inr e.symm))]
  . by_cases e1:x=.b id
    . subst e1;rw [au] at J;cases J;have hc:∀ {p:Prop},0<(0:Nat)->p:=fun h=>absurd h (by simp)
      exact ⟨(⟨ac+1,b2.sz,b2.ty,[],false,true⟩:Box),bt,by simp only;rw [<-W.ver,a0],W.sz,W.ty,zQ _,zQ _,fun x hx=>by simp at hx,hc,hc,hc,hc⟩
    . by_cases e2:x=.r n ix 1
      . subst e2;rw [an] at J;cases J;have cl:getB ((H.set id ⟨ac+1,b2.sz,b2.ty,[],false,true⟩).set n ⟨ver,2,bx.ty,O,false,true⟩) (.r n ix 1)=some ⟨2*b2.xs.length,b2.sz,rowTy bx.ty,b2.xs,false,true⟩:=by
         rw [xdK be aq ap rfl a8];show some (xIy _ ((O.getD ix .top).cells.getD 1 .top))=_;rw [az,if_pos rfl];rfl
        have k4:=W.mono (w':=ChangeMaps.setBlock w m.b (.map ae q)) (A':=A) (M':=M') (fun h0=>af (.b id) m2 (fun e=>hne (by injection e)) am h0) V (by rw [aj];exact zd _) (fun _ _ h=>h) W.guard ad
        refine ⟨_,cl,rfl,k4.sz,by rw [<-bu];exact k4.ty,k4.capm,k4.fits,k4.ok,k4.low,k4.lt,fun h0=>?_,fun h0=>?_⟩
        . obtain ⟨cc,c1,c2,c3⟩:=k4.cells h0;refine ⟨cc,c1,c2,fun i' j' ba hk=>?_⟩
          have h4:=c3 i' j' ba hk;rw [xa1 ah,xbK ah,bq] at h4;rw [xa1 (xcp _),xbK (bx:=⟨2*b2.xs.length,b2.sz,rowTy bx.ty,b2.xs,false,true⟩) (xcp _)];exact h4
        . have:=k4.guard h0;rw [bw] at this;exact this
      . by_cases al:x.base=id
        . rw [ag x e1 e2] at J;obtain ⟨bx',k1,k2⟩:=hR.box x m' J;cases x with
          | b k=>exact absurd (by rw [<-al];rfl) e1
          | r k i' j' =>
           simp only [Id.base] at al;subst al;rw [xdV ai ah] at k1;cases k1;exact ⟨tombB,xdV bt ah,k2.mono (fun h0=>af _ m' (fun e=>by cases e) J h0) V (by rw [aj];exact zd _) (fun _ _ h=>h) k2.guard ad⟩
        have aw:x.base=n:=by
         rcases hS with h|h
         . exact h
         . exact absurd h al
        rw [ag x e1 e2] at J;obtain ⟨bx',k1,k2⟩:=hR.box x m' J;cases x with
        | r n' i' j' =>
         simp only [Id.base] at aw;subst aw;have k3:getB ((H.set id ⟨ac+1,b2.sz,b2.ty,[],false,true⟩).set n' ⟨ver,2,bx.ty,O,false,true⟩) (.r n' i' j')=some bx':=by
          obtain ⟨ca,e3,e4,e5⟩:=xgi ay aq k1;have cd:=bb j' ca;subst cd;have bz:i'≠ix:=fun e=>e2 (by rw [e])
          rw [xdK be aq ap rfl (by show i'<O.length;omega),e5]
          show some (xIy _ ((O.getD i' .top).cells.getD 1 .top))=_;rw [az,if_neg bz];have:∀ y:AV,xIy ⟨ver,2,bx.ty,O,false,true⟩ y=xIy bx y:=fun y=>by
           cases y<;>simp [xIy,bp]
          rw [this]
         exact ⟨bx',k3,k2.mono (fun h0=>af _ m' (fun e=>by cases e) J h0) V (by rw [aj];exact zd _) (fun _ _ h=>h) k2.guard ad⟩
        | b n' =>
         simp only [Id.base] at aw;subst aw;rw [a9] at J;cases J;have hroom':O.length<=maxLen:=by
          unfold xIV at bc;unfold maxLen;omega
         refine ⟨⟨ver,2,bx.ty,O,false,true⟩,be,cf.symm.trans Z.ver,hsz.symm,Z.ty,Z.capm,by rw [hcap];exact hroom',fun y hy=>?_,Z.low,fun h0=>by rw [aj];exact Z.lt h0,fun h0=>?_,fun _=>⟨fun _=>hA,fun _=>rfl⟩⟩
         . rw [hsz];obtain ⟨k,hk,rfl⟩:=xje hy;rw [az];by_cases a7:k=ix
           . rw [if_pos a7];exact xrO rfl
           . rw [if_neg a7,<-hsz];exact Z.ok _ (xbe (ax k hk a7))
         . let c':Array Value:=Array.ofFn (n:=maxLen*2) fun k=>match ab[k.val / 2]? with
            | some x=>if k.val % 2=0 then x.key else x.val
            | none=>undef
           have cv:ab.size<=maxLen:=by rw [r2];exact hroom'
           have cp:∀ (k:Nat) (x:MapEntry),ab[k]?=some x->k<ab.size:=fun k x hx=>by
            rcases zJ k ab.size with h|h
            . exact h
            . simp [Array.getElem?_eq_none h] at hx
           have hc':∀ (k:Nat) (x:MapEntry),ab[k]?=some x->c'.getD (k*m.sz) undef=x.key/\c'.getD (k*m.sz+1) undef=x.val:=fun k x hx=>by
            have hk:=cp k x hx;rw [hsz];have e1:k*2<maxLen*2:=by omega
            have e2:k*2+1<maxLen*2:=by omega
            constructor
            . rw [zu,Array.getElem?_ofFn,dif_pos e1];simp only [zh,Nat.mul_div_cancel _ (by omega:0<2),hx,Nat.mul_mod_left,if_true]
            . rw [zu,Array.getElem?_ofFn,dif_pos e2];have d1:(k*2+1) / 2=k:=by omega
              have d2:¬ (k*2+1) % 2=0:=by omega
              simp only [zh,d1,hx,d2,if_false]
           refine ⟨c',?_,by rw [hcap,hsz];exact Array.size_ofFn,fun i' j' ba ci=>?_⟩
           . unfold HoldsC;rw [cn];exact ⟨ab,q,bv,r2,hcap,hc',fun k x hx=>by obtain ⟨t',a1,_,a3⟩:=r3 k x hx;exact ⟨t',a1,a3⟩,r5⟩
           . have cg:i'<ab.size:=by rw [r2];exact ba
             obtain ⟨x,hx⟩:∃ x,ab[i']?=some x:=⟨ab[i'],by simp [cg]⟩
             rw [hsz] at ci;rcases j' with _|_|j'
             . rw [Nat.add_zero,(hc' i' x hx).1];obtain ⟨t',a1,a2,_⟩:=r3 i' x hx;unfold MV xIu;simp only [bj];rw [a1,a2];exact .str t'
             . rw [(hc' i' x hx).2];unfold MV xIu;simp only [ap];rw [az];rcases r4 i' x hx with ⟨g1,g2⟩|⟨g1,g2⟩
               . rw [if_neg g1];have h4:=bf i' x g2;unfold MV xIu at h4;simp only [ap] at h4;exact h4.mono V (by rw [aj];exact zd _) (fun _ _ h=>h) ad
               . rw [if_pos g1,g2];subst g1;obtain ⟨m3,q1,q2,q3,q4⟩:=Rel.osl_inv hv;rw [am] at q1;cases q1;obtain ⟨q5,a,q6,q7⟩:=q4 (by rw [<-a0,W.ver])
                 exact .osl _ (.r n' i' 1) _ _ _ _ an (zd _) q3 fun _=>⟨q5,a,q6,q7⟩
             . omega
 refine ⟨.skip,ChangeMaps.setBlock w m.b (.map ae q),A,M',undef,?_,.inr ⟨rfl,rfl⟩,⟨rfl,rfl,rfl,by rw [aj];exact zd _,fun k hk=>ak k fun e=>by have:=Z.low ao;omega⟩,ad,fun _ _=>Iff.rfl,V,⟨fun b _ hb=>ak b fun e=>hb (.b n) m a9 ao e.symm,fun x m' h h0=>?_⟩,hR',.tuple #[] [] rfl (by simp)⟩
 . rcases ho with ho|ho<;>simp only [execOp,ho,Sem.run_bind,b5,ce,r1,Result.andThen_ok,Sem.run_pure]
 . obtain ⟨y,m0,a1,a2,a3,_⟩:=ar x m' h h0;exact .inl ⟨y,m0,a1,by omega,a2.symm⟩
end
def xwG (hR:HR w A M B H) (hB:B<=w.heap.size) {o:Oper} {ρc:Operand->Value} {t:TypeId} {r:AV} {H':List Box} (ho:o.op=.makeMap t none) (h:absMakeM P H t=some (r,H')) :
  Writes P o ρc w A M B r H':=by
 unfold absMakeM at h;split at h
 case h_2=>simp at h
 rename_i kt et ag;split at h
 case h_2=>simp at h
 rename_i ty ah af;split at h
 case isFalse=>simp at h
 rename_i ac;obtain ⟨Q,Z⟩:=ac;simp only [z6,zb] at h;obtain ⟨rfl,rfl⟩:=h;have hn:Free M H.length:=hR.free_of_length (zd _);have q:=xfO w (.map #[] 0);have Y:rty ty=ty:=by unfold rty;rw [Z,Q]
 let m:MB:=⟨w.heap.size,0,2,maxLen,ty⟩;have O:MExt M (MPut M H.length m):=xnM hn m;have hA:∀ b,b<w.heap.size->(APut A w.heap.size false b->A b):=fun b hb h=>by
  rcases h with h|⟨h,_⟩
  . exact h
  . omega
 have J:MPut M H.length m (.b H.length)=some m:=by simp [MPut]
 have ab:(H++[⟨0,2,ty,[],false,true⟩])[H.length]?=some ⟨0,2,ty,[],false,true⟩:=by simp
 have ad:∀ x:Id,x≠.b H.length->MPut M H.length m x=M x:=fun x hx=>by simp [MPut,hx]
 have hR':HR (w.alloc (.map #[] 0)) (APut A w.heap.size false) (MPut M H.length m) B (H++[⟨0,2,ty,[],false,true⟩]):=by
  refine hR.rebuild (fun k=>k=H.length) (fun k hk aa=>zO aa) (fun x hx=>ad x fun e=>hx (by rw [e];rfl)) (fun x m0 hx h0 c0=>?_) (fun b hb _=>q.block b hb) q.size hA O (fun x m0 hx h0=>?_) (fun x m1 x' m2 hx h1 h2 c1 c2 he=>?_) (fun b hb=>?_)
  . obtain ⟨bx,_,k2⟩:=hR.box x m0 h0;exact ⟨q.block _ (k2.lt c0),.inl⟩
  . cases x with
    | b k =>
     have hx:k=H.length:=hx;subst hx;rw [J] at h0;cases h0;refine ⟨_,ab,rfl,rfl,Y,zd _,zQ _,fun y hy=>by simp at hy,fun _=>hB,fun _=>by simp [m],fun _=>⟨Array.replicate (maxLen*2) undef,?_,by simp [m],fun i j hi _=>by simp at hi⟩,fun _=>⟨fun _=>.inr ⟨rfl,rfl⟩,fun _=>rfl⟩⟩
     unfold HoldsC;show match xH8 ty with|false=>_|true=>_
     rw [Q];exact ⟨#[],0,⟨#[],heap_alloc_new w _,.refl _,by simp,by simp⟩,rfl,rfl,fun k x hx=>by simp at hx,fun k x hx=>by simp at hx,fun k l x y hx=>by simp at hx⟩
    | r k i j =>
     have hx:k=H.length:=hx;subst hx;have:MPut M H.length m (.r H.length i j)=M (.r H.length i j):=by simp [MPut]
     rw [this,hn.2] at h0;cases h0
  . have ae:x=.b H.length:=by
     cases x with
     | b k=>have hx:k=H.length:=hx;rw [hx]
     | r k i j =>
      have hx:k=H.length:=hx;subst hx;have:MPut M H.length m (.r H.length i j)=M (.r H.length i j):=by simp [MPut]
      rw [this,hn.2] at h1;cases h1
    subst ae;rw [J] at h1;cases h1;by_cases W:x'=.b H.length
    . exact W.symm
    . have h2':M x'=some m2:=by simpa [MPut,W] using h2
      obtain ⟨bx',_,h3⟩:=hR.box x' m2 h2';have:=h3.lt c2;rw [<-he] at this;simp [m] at this
  . rcases hb with hb|⟨rfl,_⟩
    . have:=hR.lt b hb;simp;omega
    . simp
 refine ⟨.value (.map (some w.heap.size)),w.alloc (.map #[] 0),APut A w.heap.size false,MPut M H.length m,.map (some w.heap.size),?_,.inl rfl,⟨rfl,rfl,rfl,q.size,fun k hk=>q.block k (Nat.lt_of_lt_of_le hk hB)⟩,O,fun b hb=>⟨hA b hb,.inl⟩,fun b hb _=>q.block b hb,Touch.of_new q (fun id m' h=>?_),hR',.own _ (.b H.length) 0 0 0 m J (zd _) rfl fun _=>?_⟩
 . simp [execOp,ho,Instr.makeMap]
 . by_cases V:id=.b H.length
   . subst V;rw [J] at h;cases h;exact .inr (zd _)
   . exact .inl (by simpa [MPut,V] using h)
 . unfold ptrOf;show _=match xH8 ty with|true=>_|false=>_
   rw [Q];rfl
end
end
section
variable {P : Program} {w : World} {A : Nat -> Prop} {M : Id -> Option MB} {B : Nat} {H : List Box}
def iop (P:Program) (ρ:Operand->AV) (H:List Box) (op:Op):Option (AV×List Box) :=
 match op with
 | .store t a v=>match mkd H (ρ a) with
  | true=>match absAdopt P H t (ρ a) (ρ v) with
   | some H'=>some (.tuple [],H')
   | none=>none
  | false=>match absStore P H t (ρ a) (ρ v) with
   | some H'=>some (.tuple [],H')
   | none=>none
 | .call c=>match c.callee with
  | .builtin b=>match b,c.argTypes.toList,c.args.toList with
   | .append,[t,t'],[s,x]=>match isRowRef (ρ s) with
    | true=>absTake P H t t' (ρ s) (ρ x)
    | false=>match mkd H (ρ s) with
     | true=>absAppC P H t t' (ρ s) (ρ x)
     | false=>xI9 P H t t' (ρ s) (ρ x)
   | _,_,_=>none
  | _=>none
 | .lookup t m k c=>match absLookL P H t (ρ m) (ρ k) c with
  | some r=>some (r,H)
  | none=>match absLookM P H t (ρ m) (ρ k) c with
   | some r=>some (r,H)
   | none=>match absLookR P H t (ρ m) (ρ k) c with
    | some r=>some (r,H)
    | none=>none
 | .mapUpdate t m k v=>match absPutM P H t (ρ m) (ρ k) (ρ v) with
  | some H'=>some (.tuple [],H')
  | none=>match absPutR P H t (ρ m) (ρ k) (ρ v) with
   | some H'=>some (.tuple [],H')
   | none=>none
 | .makeMap t r=>match r with
  | none=>absMakeM P H t
  | some _=>none
 | _=>none
def xAQ (hR:HR w A M B H) (hB:B<=w.heap.size) {ρ:Operand->AV} {ρc:Operand->Value} {o:Oper} {x:AV} {H':List Box} (hρ:∀ a,Rel w A M (ρc a) (ρ a)) (h:iop P ρ H o.op=some (x,H')):Writes P o ρc w A M B x H':=by
 unfold iop at h;split at h
 . rename_i t a v ho;split at h
   . split at h
     case h_2=>simp at h
     rename_i H2 q;simp only [z6,zb] at h;obtain ⟨rfl,rfl⟩:=h;exact xwr hR ho (hρ a) (hρ v) q
   . split at h
     case h_2=>simp at h
     rename_i H2 q;simp only [z6,zb] at h;obtain ⟨rfl,rfl⟩:=h;exact xwW hR ho (hρ a) (hρ v) q
 . rename_i c ho;split at h
   case h_2=>simp at h
   rename_i b J;split at h
   . rename_i t t' s y Q O;split at h
     . exact xzP hR hB ho J Q O (hρ s) (hρ y) h
     . split at h
       . exact xyV hR hB ho J Q O (hρ s) (hρ y) h
       . exact xqh hR hB ho J Q O (hρ s) (hρ y) h
   . simp at h
 . rename_i t m k c ho;split at h
   . rename_i r q;simp only [z6,zb] at h;obtain ⟨rfl,rfl⟩:=h;exact xwE hR ho (hρ m) (hρ k) q
   split at h
   . rename_i r q;simp only [z6,zb] at h;obtain ⟨rfl,rfl⟩:=h;exact xzj hR ho (hρ m) (hρ k) q
   . split at h
     case h_2=>simp at h
     rename_i r q;simp only [z6,zb] at h;obtain ⟨rfl,rfl⟩:=h;exact xwF hR ho (hρ m) (hρ k) q
 . rename_i t m k v ho;split at h
   . rename_i H2 q;simp only [z6,zb] at h;obtain ⟨rfl,rfl⟩:=h;exact xzq hR (.inl ho) (hρ m) (hρ k) (hρ v) q
   . split at h
     case h_2=>simp at h
     rename_i H2 q;simp only [z6,zb] at h;obtain ⟨rfl,rfl⟩:=h;exact xzs hR (.inl ho) (hρ m) (hρ k) (hρ v) q
 . rename_i t r ho;split at h
   . exact xwG hR hB ho h
   . simp at h
 . simp at h
end
def absAppE (P:Program) (H:List Box) (nid:Nat) (t tt:TypeId) (s x:AV):Option (AV×Option Box) :=
 match s with
 | .empt=>match xH5 P t with
  | some ti=>match ti.d with
   | .slice e=>match xH5 P e with
    | some te=>match absSrc P H t tt e te.sz x with
     | some (ys,pm)=>if 0<te.sz/\ys.length*te.bytes<=140737488355328/\ys.length<=xIV/\te.zero.okElem te.sz=true then some (.osl nid 0 0 ys.length,some ⟨0,te.sz,e,ys,false,pm⟩) else none
     | none=>none
    | none=>none
   | _=>none
  | none=>none
 | _=>none
section
variable {P : Program} {w : World} {A : Nat -> Prop} {M : Id -> Option MB} {B : Nat} {H : List Box} {nid : Nat}
def HR.virtAt (hR:HR w A M B H) (hn:Free M nid) {bx:Box} (hH:H[nid]?=some bx) (hx:bx.xs=[]) (W:isC bx.ty=false) :
  MExt M (MPut M nid ⟨0,bx.ver,bx.sz,0,bx.ty⟩)/\NewId w M (MPut M nid ⟨w.heap.size,bx.ver,bx.sz,0,bx.ty⟩) nid/\HR w A (MPut M nid ⟨w.heap.size,bx.ver,bx.sz,0,bx.ty⟩) B H/\MPut M nid ⟨w.heap.size,bx.ver,bx.sz,0,bx.ty⟩ nid=some ⟨w.heap.size,bx.ver,bx.sz,0,bx.ty⟩/\MExt M (MPut M nid ⟨w.heap.size,bx.ver,bx.sz,0,bx.ty⟩):=by
 have Q:MExt M (MPut M nid ⟨w.heap.size,bx.ver,bx.sz,0,bx.ty⟩):=xnM hn _;have O:∀ id m',MPut M nid ⟨w.heap.size,bx.ver,bx.sz,0,bx.ty⟩ id=some m'->0<m'.cap->M id=some m':=fun id m' hm h0=>by
  by_cases q:id=.b nid
  . subst q;simp [MPut] at hm;subst hm;exact absurd h0 (by simp)
  . simpa [MPut,q] using hm
 refine ⟨xnM hn _,⟨fun id q=>by simp [MPut,q],fun m' J=>.inr (by simp [MPut] at J;subst J;exact zd _)⟩,⟨fun id m' J=>?_,fun id id' m1 m2 h1 h2 c1 c2 he=>hR.inj id id' m1 m2 (O id m1 h1 c1) (O id' m2 h2 c2) c1 c2 he,hR.lt⟩,by simp [MPut],Q⟩
 by_cases q:id=.b nid
 . subst q;have:m'=⟨w.heap.size,bx.ver,bx.sz,0,bx.ty⟩:=by simp [MPut] at J;exact J.symm
   subst this;have hc:∀ {p:Prop},0<(0:Nat)->p:=fun h=>absurd h (by simp)
   exact ⟨bx,hH,rfl,rfl,xbS W,zQ _,by rw [hx];exact zQ _,fun x V=>by rw [hx] at V;simp at V,hc,hc,hc,hc⟩
 . have Y:M id=some m':=by simpa [MPut,q] using J
   obtain ⟨bx',g1,g2⟩:=hR.box id m' Y;exact ⟨bx',g1,g2.mono (fun _=>rfl) (fun _ _ _=>rfl) (zd _) (fun _ _ h=>h) g2.guard Q⟩
def xyW (hR:HR w A M B H) (hB:B<=w.heap.size) (hn:Free M nid) {o:Oper} {ρc:Operand->Value} {c:Call} {t tt:TypeId} {os ox:Operand} {xs xx r:AV} {nb:Option Box} (ho:o.op=.call c) (ai:c.callee=.builtin .append)
  (aq:c.argTypes.toList=[t,tt]) (a0:c.args.toList=[os,ox]) (hs:Rel w A M (ρc os) xs) (hx:Rel w A M (ρc ox) xx) (h:absAppE P H nid t tt xs xx=some (r,nb)) (hH:∀ bx,nb=some bx->∃ f,H[nid]?=some { bx with frz:=f }) :
  Gives P o ρc w A M B H nid r:=by
 unfold absAppE at h;split at h
 case h_2=>simp at h
 split at h
 case h_2=>simp at h
 rename_i ti ay;split at h
 case h_2=>simp at h
 rename_i e hd;split at h
 case h_2=>simp at h
 rename_i te W;split at h
 case h_2=>simp at h
 rename_i ys pm al;split at h
 case isFalse=>simp at h
 rename_i an;obtain ⟨ab,am,ao,O⟩:=an;simp only [z6,zb] at h;obtain ⟨rfl,rfl⟩:=h;obtain ⟨f,ad⟩:=hH _ rfl;have hu:P.underlying t=some (.slice e):=by rw [xk0 ay,hd]
 obtain ⟨i,z,aa,a6,a1,ak,ac,ax,_⟩:=xbQ W;have ae:isC e=false:=xkg W;have hts':c.argTypes=#[t,tt]:=by apply Array.ext';simpa using aq
 have has':c.args=#[os,ox]:=by apply Array.ext';simpa using a0
 have q:∀ v w',(Builtin.append_ #[t,tt] o.type #[ρc os,ρc ox]).run P w=.ok v w'->(execOp ρc o).run P w=.ok (.value v) w':=by
  intro v w' hv;simp [execOp,ho,resolve,ai,hts',has',invoke,builtin,hv,Go.resolve]
 have V:∃ a,ρc os=.slice a 0 0:=by
  generalize ρc os=v at hs;cases hs with|empt a=>exact ⟨a,rfl⟩
 obtain ⟨a,V⟩:=V;rw [V] at q;rcases xnu hR W ab hu (ty:=o.type) aa hx al with ⟨rfl,ap⟩|⟨a5,az,news,Z,ar,Q⟩
 . obtain ⟨_,g2,g3,g4,g5⟩:=hR.virtAt hn ad rfl ae;exact ⟨.slice a 0 0,w,A,_,q _ _ (ap a 0 0 (zd _)),Below.refl _ _,g5,fun _ _=>Iff.rfl,g2,g3,.osl _ (.b nid) 0 0 0 _ g4 (zd _) rfl fun _=>⟨by simp,a,by simp,fun h=>by simp at h⟩⟩
 have a2:ys.length<=4611686018427387904:=ao;have aw:Rel w A M z te.zero:=by rw [ax];exact xdM w A M z
 obtain ⟨a3,_⟩:=aw.cells (xbs O);have a4:=xa3 O;have J:(Builtin.append_ #[t,tt] o.type #[.slice a 0 0,ρc ox]).run P w=.ok (.slice (some ⟨w.heap.size,0,none⟩) ys.length (grownCap w ys.length 0 e)) (w.drew.alloc (.cells (news.toArray++Builtin.zeroCells z.cells (grownCap w ys.length 0 e - ys.length)) e)):=by
  have R:=Q i z aa a1 ak.symm;cases a with
  | none=>exact R.nil (by omega) (by rw [<-ac];omega)
  | some b =>
   have:=R.grow b 0 0 [] (by simp) (fun j u hj=>by simp at hj) (by omega) (by omega) (growslice_fits (by omega) (by rw [<-ac];simpa using am))
   simpa using this
 have Y:=grownCap_ge w ys.length 0 e;have aj:=grownCap_le_maxLen w ys.length 0 e (by unfold maxLen;omega)
 generalize hcap:grownCap w ys.length 0 e=cap at J Y aj;have ah:(Builtin.zeroCells z.cells (cap - ys.length)).size=(cap - ys.length)*te.sz:=by rw [size_zeroCells];congr 1;omega
 have au:=xk1 (bx:=⟨0,te.sz,e,ys,f,pm⟩) (nid:=nid) (c:=news.toArray++Builtin.zeroCells z.cells (cap - ys.length)) (cap:=cap) hR.drew (by simpa using hB) hn ae ad aj
  (by rw [Array.size_append,List.size_toArray,Z,ah,<-Nat.add_mul];congr 1;omega) Y az
  (fun i' j ag hj=>by
   have hk:i'*te.sz+j<ys.length*te.sz:=xeE ag hj;have e1:(news.toArray++Builtin.zeroCells z.cells (cap - ys.length)).getD (i'*te.sz+j) undef=news.getD (i'*te.sz+j) undef:=by
    simp only [zu,Array.getElem?_append,List.size_toArray,Z,hk,if_true,List.getElem?_toArray,z7]
   rw [e1];exact (ar _ _ ag hj).grow ⟨rfl,rfl,rfl,zd _,fun _ _=>rfl⟩)
 obtain ⟨s1,s2,s3,s4,s5⟩:=au;have af:Below w.heap.size w (w.drew.alloc (.cells (news.toArray++Builtin.zeroCells z.cells (cap - ys.length)) e)):=((Below.refl _ _).drew).alloc (by simp) _
 exact ⟨_,_,_,_,q _ _ J,af,s1,s2,s3,s4,.osl _ (.b nid) 0 0 ys.length _ s5 (zd _) rfl fun _=>⟨by simpa using Y,some ⟨w.heap.size,0,none⟩,by simp,fun _=>by simp⟩⟩
end
def xDb {P:Program} {w:World} {A:Nat->Prop} {M:Id->Option MB} {B:Nat} {H:List Box} {nid:Nat} {o:Oper} {ρc:Operand->Value} {e:TypeId} {v:Value} {x:AV} (hR:HR w A M B H) (hv:Rel w A M v x) (J:x.cells.all AV.one=true) (hp:x.pure=true)
  (Q:(execOp ρc o).run P w=.ok (.value (.pointer (some ⟨w.heap.size,0,none⟩))) (w.alloc (.cells v.cells e))):Gives P o ρc w A M B H nid (.eptr x.cells.length [x] 0 0):=by
 obtain ⟨h1,h2⟩:=hv.cells J;have q:=xfO w (.cells v.cells e);have V:¬ A w.heap.size:=fun h=>Nat.lt_irrefl _ (hR.lt _ h)
 have:=Rel.eptr (w:=w.alloc (.cells v.cells e)) (A:=A) (M:=M) w.heap.size 0 x.cells.length [x] 0 0 (fun _ j=>v.cells.getD j undef) V (by simp) (by simp)
  (fun y hy=>by simp only [zv] at hy;subst hy;simp only [AV.okElem,beq_self_eq_true,Bool.true_and];exact J)
  (fun i j hi hj=>by
   have O:i=0:=by simpa using hi
   subst O;have hj':j<v.cells.size:=by rw [h1];exact hj
   have hb:(w.alloc (.cells v.cells e)).heap[w.heap.size]?=some (.cells v.cells e):=heap_alloc_new w _;rw [Nat.zero_mul,zH];unfold World.cell?;simp only [hb];simp [hj'])
  (fun i j hi hj=>by
   have O:i=0:=by simpa using hi
   subst O;exact ((h2 j hj).pure (xfC (xlo hp) j)).grow q)
 exact ⟨_,w.alloc (.cells v.cells e),A,M,Q,q,MExt.refl M,fun _ _=>Iff.rfl,⟨fun _ _=>rfl,fun _ h=>.inl h⟩,hR.grow q,by simpa using this⟩
def fopE (P:Program) (ρ:Operand->AV) (H:List Box) (nid:Nat) (op:Op):Option (AV×Option Box) :=
 match op with
 | .buildSlice t len parts=>match len,parts.toList with
  | 0,[]=>match xH5 P t with
   | some ti=>match ti.d with
    | .slice e=>match xH5 P e with
     | some _=>some (.empt,none)
     | none=>none
    | _=>none
   | none=>none
  | _,_=>none
 | .call c=>match c.callee with
  | .builtin b=>match b,c.argTypes.toList,c.args.toList with
   | .append,[t,t'],[s,x]=>absAppE P H nid t t' (ρ s) (ρ x)
   | _,_,_=>none
  | _=>none
 | .box _ x=>if (ρ x).cells.all AV.one=true/\(ρ x).pure=true then some (.eptr (ρ x).cells.length [ρ x] 0 0,none) else none
 | .lookup t m k c=>match absLookL P H t (ρ m) (ρ k) c with
  | some r=>some (r,none)
  | none=>match absLookR P H t (ρ m) (ρ k) c with
   | some r=>some (r,none)
   | none=>none
 | _=>none
def xB5 {P:Program} {ρ:Operand->AV} {H:List Box} {n n':Nat} {op:Op} {x:AV} (h:fopE P ρ H n op=some (x,none)):fopE P ρ H n' op=some (x,none):=by
 unfold fopE at h |-;split at h
 . exact h
 . split at h
   . split at h
     . exfalso;unfold absAppE at h;repeat' split at h
       all_goals simp at h
     . simp at h
   . simp at h
 . exact h
 . exact h
 . simp at h
def xzb {P:Program} {w:World} {A:Nat->Prop} {M:Id->Option MB} {B:Nat} {H:List Box} {nid:Nat} {ρ:Operand->AV} {ρc:Operand->Value} {o:Oper} {x:AV} {nb:Option Box} (hf:fopE P ρ H nid o.op=some (x,nb)) (hρ:∀ a,a∈o.op.operands.toList->Rel w A M (ρc a) (ρ a))
  (hR:HR w A M B H) (hB:B<=w.heap.size) (hn:Free M nid) (hH:∀ bx,nb=some bx->∃ f,H[nid]?=some { bx with frz:=f }):Gives P o ρc w A M B H nid x:=by
 unfold fopE at hf;split at hf
 . rename_i t len V ho;split at hf
   case h_2=>simp at hf
   rename_i q;split at hf
   case h_2=>simp at hf
   rename_i ti ab;split at hf
   case h_2=>simp at hf
   rename_i e hd;split at hf
   case h_2=>simp at hf
   rename_i te aa;simp only [z6,zb] at hf;obtain ⟨rfl,rfl⟩:=hf;have ae:V=#[]:=by apply Array.ext';simpa using q
   subst ae;have ac:P.underlying t=some (.slice e):=by rw [xk0 ab,hd]
   obtain ⟨i,z,ad,ah,ag,ai,_⟩:=xbQ aa;have Z:(Instr.buildSlice t 0 #[]).run P w=.ok (.slice (some ⟨w.heap.size,0,none⟩) 0 0) (w.alloc (.cells #[] e)):=by
    simp [Instr.buildSlice,run_underlying ac,sizeOf,typeInfo,ad,Go.newRow,zeroValue,ag,Instr.fill,show Array.range 0=#[] from rfl]
   have O:=xfO w (.cells #[] e);refine ⟨.slice (some ⟨w.heap.size,0,none⟩) 0 0,w.alloc (.cells #[] e),A,M,?_,O,MExt.refl M,fun _ _=>Iff.rfl,⟨fun _ _=>rfl,fun _ h=>.inl h⟩,hR.grow O,.empt _⟩
   simp only [execOp,ho,List.map_toArray,zW,Array.map_empty,Sem.run_bind,Z,Result.andThen_ok,Sem.run_pure]
 . rename_i c ho;split at hf
   case h_2=>simp at hf
   rename_i b Q;split at hf
   . rename_i t t' s y af W;have J:∀ a,a∈c.args.toList->Rel w A M (ρc a) (ρ a):=fun a ha=>hρ a (by simp [ho,Op.operands,Call.operands,Q];simpa using ha)
     exact xyW hR hB hn ho Q af W (J s (by rw [W];simp)) (J y (by rw [W];simp)) hf hH
   . simp at hf
 . rename_i e a ho;split at hf
   case isFalse=>simp at hf
   rename_i hc;obtain ⟨Y,hp⟩:=hc;simp only [z6,zb] at hf;obtain ⟨rfl,rfl⟩:=hf;exact xDb (e:=e) hR (hρ a (by simp [ho,Op.operands])) Y hp (by simp [execOp,ho,Instr.box,newVar,Go.newRow])
 . rename_i t m k c ho;split at hf
   . rename_i r hr;simp only [z6,zb] at hf;obtain ⟨rfl,rfl⟩:=hf;obtain ⟨v,h1,h2⟩:=xua hR (hρ m (by simp [ho,Op.operands])) (hρ k (by simp [ho,Op.operands])) hr
     exact .stay hR ⟨v,by simp [execOp,ho,h1],h2⟩
   split at hf
   case h_2=>simp at hf
   rename_i r hr;simp only [z6,zb] at hf;obtain ⟨rfl,rfl⟩:=hf;obtain ⟨v,h1,h2⟩:=xub hR (hρ m (by simp [ho,Op.operands])) (hρ k (by simp [ho,Op.operands])) hr
   exact .stay hR ⟨v,by simp [execOp,ho,h1],h2⟩
 . simp at hf
end Go.Sim
end
