/- Part 3 of the proof of the law. -/
import Derived.Test.YtnbckejindjgaaaGreatDoorQD2
import Derived.Laws.OwnMore
import Derived.Laws.Append
import Derived.Laws.AppendOwn
import Derived.Lib.AppendStr
import Derived.Tactics
import Derived.LoopN
set_option linter.unusedVariables false
set_option linter.unusedSimpArgs false
set_option linter.unnecessarySimpa false
noncomputable section
namespace Go.Sim
open Go.RowKit
mutual
def AV.flat:AV->Bool
 | .agg cs=>AV.flats cs
 | .list _ _=>false
 | .eptr _ _ _ _=>false
 | .own _ _ _ _=>false
 | .osl _ _ _ _=>false
 | .func f cs=>match Nat.beq f vpF with
  | true=>false
  | false=>AV.flats cs
 | .tuple vs=>AV.flats vs
 | .top=>true
 | .bool _=>true
 | .int _ _=>true
 | .str _=>true
 | .nils=>true
 | .nilptr=>true
 | .nilfn=>true
 | .empt=>true
 | .gptr _=>true
 | .yld _=>true
def AV.flats:List AV->Bool
 | []=>true
 | x::xs=>AV.flat x&&AV.flats xs
end
theorem xCw:∀ xs:List AV,AV.flats xs=xs.all AV.flat
 | []=>by simp [AV.flats]
 | x::xs=>by simp [AV.flats,xCw xs]
theorem xuF {xs:List AV} (h:AV.flats xs=true) (i:Nat):(xs.getD i .top).flat=true:=by
 rw [xCw,zI] at h;by_cases hi:i<xs.length
 . simp only [z7,ze hi,zh];exact h _ (zo _)
 . simp [z7,zz (Nat.le_of_not_lt hi),AV.flat]
theorem Rel.flat {w w':World} {A A':Nat->Prop} {M M':Id->Option MB} {v:Value} {x:AV} (h:Rel w A M v x):x.flat=true->Rel w' A' M' v x:=by
 induction h generalizing M' with
 | top v=>intro _;exact .top v
 | bool b=>intro _;exact .bool b
 | int k n=>intro _;exact .int k n
 | str s=>intro _;exact .str s
 | agg vs cs h hr ih=>intro hp;exact .agg vs cs h fun i hi=>ih i hi (xuF (by simpa [AV.flat] using hp) i)
 | nils=>intro _;exact .nils
 | list0 a cap sz=>intro _;exact .list0 a cap sz
 | list b off cap sz xs val ha hb hne hcap hsz hc hr ih=>intro hp;simp [AV.flat] at hp
 | eptr b off sz xs i0 j0 val ha hb hi hsz hc hr ih=>intro hp;simp [AV.flat] at hp
 | own v id ver i j m hm hv h1 he=>intro hp;simp [AV.flat] at hp
 | osl v id ver off len m hm hv h1 he=>intro hp;simp [AV.flat] at hp
 | nilptr=>intro _;exact .nilptr
 | func f vs cs h hr hf ih =>
  intro hp;cases hv:Nat.beq f vpF with
  | true=>simp [AV.flat,hv] at hp
  | false=>exact .func f vs cs h (fun i hi=>ih i hi (xuF (by simpa [AV.flat,hv] using hp) i)) hf
 | vptr b off v0 x ha hb hc hr ih=>intro hp;exact absurd hp (by simp [AV.flat,vpF])
 | nilfn=>intro _;exact .nilfn
 | nmap=>intro _;exact .nmap
 | empt a=>intro _;exact .empt a
 | tuple vs cs h hr ih=>intro hp;exact .tuple vs cs h fun i hi=>ih i hi (xuF (by simpa [AV.flat] using hp) i)
 | gptr g=>intro _;exact .gptr g
 | yld g=>intro _;exact .yld g
def mapO (r:AV->Option AV):List AV->Option (List AV)
 | []=>some []
 | x::xs=>match r x,mapO r xs with
  | some y,some ys=>some (y::ys)
  | _,_=>none
def resE (r:AV->Option AV):AV->Option AV
 | .agg cs=>match mapO r cs with
  | some ds=>some (.agg ds)
  | none=>none
 | x=>r x
def mapE (pm:Bool) (r:AV->Option AV) (xs:List AV):Option (List AV):=if pm=true then some xs else mapO (resE r) xs
def xNq (sz:Nat):AV->Bool
 | .list z _=>Nat.beq z sz
 | _=>false
def xNg (sz j:Nat) (q:List AV):Bool:=q.all fun x=>xNq sz (x.cells.getD j .top)
def rowsOk (bx:Box) (q:List AV):Bool:=match isC bx.ty with
 | false=>true
 | true=>bx.pm&&xNg (rowSz bx.ty) (xMS bx.ty) q
def resolve (H:List Box):Nat->AV->Option AV
 | 0,x=>if x.pure=true then some x else none
 | n+1,x=>if x.pure=true then some x else
  match x with
  | .agg cs=>match mapO (resolve H n) cs with|some ds=>some (.agg ds)|none=>none
  | .func f cs=>match Nat.beq f vpF with
   | true=>none
   | false=>match mapO (resolve H n) cs with|some ds=>some (.func f ds)|none=>none
  | .own id ver i j=>match xMP H id ver with
   | some bx=>match mapE bx.pm (resolve H n) bx.xs with
    | some ys=>if i<bx.xs.length/\isC bx.ty=false then some (.eptr bx.sz ys i j) else none
    | none=>none
   | none=>none
  | .osl id ver off len=>match xMP H id ver with
   | some bx=>match mapE bx.pm (resolve H n) ((bx.xs.drop off).take len) with
    | some ys=>if off+len<=bx.xs.length/\rowsOk bx ((bx.xs.drop off).take len)=true then some (.list bx.sz ys) else none
    | none=>none
   | none=>none
  | _=>none
def reach (H:List Box):Nat->AV->List Nat
 | 0,_=>[]
 | n+1,x=>if x.pure=true then [] else
  match x with
  | .agg cs=>cs.flatMap (reach H n)
  | .func _ cs=>cs.flatMap (reach H n)
  | .own id _ _ _=>id.base::(match getB H id with|some bx=>if bx.pm=true then [] else bx.xs.flatMap fun (e:AV)=>e.cells.flatMap (reach H n)|none=>[])
  | .osl id _ off len=>id.base::(match getB H id with|some bx=>if bx.pm=true then [] else ((bx.xs.drop off).take len).flatMap fun (e:AV)=>e.cells.flatMap (reach H n)|none=>[])
  | _=>[]
theorem xau {xs:List AV} {i:Nat} (hi:i<xs.length):xs.getD i .top∈xs:=by
 simp only [z7,ze hi,zh];exact zo _
theorem xuW {H:List Box} {n:Nat} {x:AV} (h:x.pure=true):reach H n x=[]:=by
 cases n with
 | zero=>rfl
 | succ n=>unfold reach;rw [if_pos h]
theorem xeb {r:AV->Option AV}:∀ {xs ys:List AV},mapO r xs=some ys->ys.length=xs.length/\∀ i,i<xs.length->r (xs.getD i .top)=some (ys.getD i .top)
 | [],ys,h=>by simp [mapO] at h;subst h;simp
 | x::xs,ys,h=>by
  unfold mapO at h;split at h
  . rename_i y zs h1 h2;cases h;obtain ⟨e1,e2⟩:=xeb h2;refine ⟨by simp [e1],fun i hi=>?_⟩
    cases i with
    | zero=>simpa using h1
    | succ i=>have:=e2 i (by simp at hi;omega);simpa using this
  . simp at h
theorem xHp {r:AV->Option AV} {xs ys:List AV} (h:mapO r xs=some ys) {i:Nat} (hi:i<xs.length):r (xs.getD i .top)=some (ys.getD i .top):=(xeb h).2 i hi
theorem xFU {H:List Box} {n:Nat} {x y:AV} (h:resE (resolve H n) x=some y) (hx:x.cells.all AV.one=true) :
  y.cells.length=x.cells.length/\∀ j,j<x.cells.length->resolve H n (x.cells.getD j .top)=some (y.cells.getD j .top):=by
 have key:∀ x y:AV,x.cells=[x]->x.one=true->resolve H n x=some y->y.cells.length=x.cells.length/\∀ j,j<x.cells.length->resolve H n (x.cells.getD j .top)=some (y.cells.getD j .top):=by
  intro x y hc h1 hr;have hy:y.cells=[y]:=by
   cases n with
   | zero =>
    unfold resolve at hr;split at hr
    . cases hr;exact hc
    . simp at hr
   | succ n =>
    unfold resolve at hr;split at hr
    . cases hr;exact hc
    . split at hr<;>first
       | (simp [AV.one] at h1;done)
       | (simp at hr;done)
       | (
        split at hr
        . simp at hr
        . split at hr
          . cases hr;rfl
          . simp at hr)
       | (
        split at hr
        . cases hr;rfl
        . simp at hr)
       | (
        split at hr
        . split at hr
          . split at hr
            . cases hr;rfl
            . simp at hr
          . simp at hr
        . simp at hr)
  rw [hc,hy];refine ⟨rfl,fun j hj=>?_⟩
  have:j=0:=by simpa using hj
  subst this;exact hr
 cases x with
 | agg cs =>
  simp only [resE] at h;split at h
  . rename_i ds q;cases h;exact ⟨(xeb q).1,fun j hj=>xHp q hj⟩
  . simp at h
 | top=>simp [AV.cells,AV.one] at hx
 | tuple vs=>simp [AV.cells,AV.one] at hx
 | _=>exact key _ _ rfl (by simpa [AV.cells] using hx) h
theorem xD5 {H:List Box} {n:Nat} {x y:AV} (h:resolve H n x=some y) (hx:x.one=true):y.one=true:=by
 cases n with
 | zero =>
  unfold resolve at h;split at h
  . cases h;exact hx
  . simp at h
 | succ n =>
  unfold resolve at h;split at h
  . cases h;exact hx
  . split at h<;>first
     | (simp [AV.one] at hx;done)
     | (simp at h;done)
     | (
      split at h
      . simp at h
      . split at h
        . cases h;rfl
        . simp at h)
     | (
      split at h
      . cases h;rfl
      . simp at h)
     | (
      split at h
      . split at h
        . split at h
          . cases h;rfl
          . simp at h
        . simp at h
      . simp at h)
theorem xk2 {H:List Box} {n:Nat} {x:AV} (h:x.pure=true):resolve H n x=some x:=by
 cases n<;>simp [resolve,h]
theorem xzk {H:List Box} {n sz:Nat} {pm:Bool} {xs ys:List AV} (h:mapE pm (resolve H n) xs=some ys) (q:∀ x,x∈xs->x.okElem sz=true) :
  ys.length=xs.length/\(∀ y,y∈ys->y.okElem sz=true)/\(pm=true->ys=xs)/\(¬ pm=true->∀ i j,i<xs.length->j<sz->resolve H n ((xs.getD i .top).cells.getD j .top)=some ((ys.getD i .top).cells.getD j .top)):=by
 unfold mapE at h;split at h
 . rename_i hp;cases h;exact ⟨rfl,q,fun _=>rfl,fun h=>absurd hp h⟩
 . rename_i J;obtain ⟨h1,h2⟩:=xeb h;have at_:∀ i,i<xs.length->xs.getD i .top∈xs:=fun i hi=>by
    simp only [z7,ze hi,zh];exact zo _
   have cell:∀ i,i<xs.length->(ys.getD i .top).cells.length=sz/\∀ j,j<sz->resolve H n ((xs.getD i .top).cells.getD j .top)=some ((ys.getD i .top).cells.getD j .top):=by
    intro i hi;have hk:=q _ (at_ i hi);obtain ⟨e1,e2⟩:=xFU (h2 i hi) (xaE hk);have hl:=xan hk;exact ⟨by omega,fun j hj=>e2 j (by omega)⟩
   refine ⟨h1,fun y hy=>?_,fun h=>absurd h J,fun _ i j hi hj=>(cell i hi).2 j hj⟩
   obtain ⟨i,hi,rfl⟩:=zp.1 hy;have hi':i<xs.length:=by omega
   obtain ⟨c1,c2⟩:=cell i hi';have e:ys.getD i .top=ys[i]:=by simp [z7,hi]
   rw [e] at c1 c2;simp only [AV.okElem,c1,beq_self_eq_true,Bool.true_and,zI];intro c hc;obtain ⟨j,hj,rfl⟩:=zp.1 hc;have hk:=xaE (q _ (at_ i hi'));have hl:=xan (q _ (at_ i hi'));have hj':j<sz:=by omega
   have h3:=c2 j hj';have e3:ys[i].cells.getD j .top=ys[i].cells[j]:=by simp [z7,hj]
   rw [e3] at h3;refine xD5 h3 ?_;rw [zI] at hk;have O:j<(xs.getD i .top).cells.length:=by omega
   exact hk _ (xau O)
section
variable {w : World} {A A' : Nat -> Prop} {M M' : Id -> Option MB} {B : Nat} {H : List Box}
theorem xHD {n:Nat} {id:Id} {e:AV} {bx:Box} (hb:getB H id=some bx) (q:¬ bx.pm=true) (he:e∈bx.xs) {c:AV} (hc:c∈e.cells) {k:Nat} (hk:k∈reach H n c) :
  k∈(match getB H id with|some bx=>if bx.pm=true then [] else bx.xs.flatMap fun (e:AV)=>e.cells.flatMap (reach H n)|none=>[]):=by
 simp only [hb,q,if_false];exact y6.2 ⟨e,he,y6.2 ⟨c,hc,hk⟩⟩
theorem xHE {n:Nat} {id:Id} {off len:Nat} {e:AV} {bx:Box} (hb:getB H id=some bx) (q:¬ bx.pm=true) (he:e∈(bx.xs.drop off).take len) {c:AV} (hc:c∈e.cells) {k:Nat} (hk:k∈reach H n c) :
  k∈(match getB H id with|some bx=>if bx.pm=true then [] else ((bx.xs.drop off).take len).flatMap fun (e:AV)=>e.cells.flatMap (reach H n)|none=>[]):=by
 simp only [hb,q,if_false];exact y6.2 ⟨e,he,y6.2 ⟨c,hc,hk⟩⟩
theorem xkS {xs:List AV} {c:AV} (h:c∈xs):∃ i,i<xs.length/\xs.getD i .top=c:=by
 obtain ⟨i,hi,rfl⟩:=zp.1 h;exact ⟨i,hi,by simp [z7,hi]⟩
theorem xbO {H:List Box} {n:Nat} {b:Box} (h:H[n]?=some b):n<H.length:=by
 rcases zJ n H.length with h'|h'
 . exact h'
 . rw [zz h'] at h;simp at h
theorem xnU {H H':List Box} {x:Id} (h:H[x.base]?=H'[x.base]?):getB H x=getB H' x:=by
 cases x with
 | b n=>exact h
 | r n i j=>simp only [Id.base] at h;simp only [getB,h]
theorem xnV {H:List Box} {n i j:Nat} {rb:Box} (h:getB H (.r n i j)=some rb):∃ bx:Box,H[n]?=some bx/\(isC bx.ty=false/\rb=tombB\/isC bx.ty=true/\xMN bx.ty j=true/\bx.pm=true/\i<bx.xs.length/\rb=xNc bx ((bx.xs.getD i .top).cells.getD j .top)):=by
 simp only [getB] at h;split at h
 . rename_i bx hb;split at h
   . rename_i q;split at h
     . rename_i hc;simp only [z6] at h;exact ⟨bx,hb,.inr ⟨q,hc.1,hc.2.1,hc.2.2,h.symm⟩⟩
     . simp at h
   . rename_i q;simp only [z6] at h;exact ⟨bx,hb,.inl ⟨q,h.symm⟩⟩
 . simp at h
theorem xh2 {H:List Box} {n i j:Nat} {rb bx:Box} (hb:H[n]?=some bx) (hC:isC bx.ty=true) (h:getB H (.r n i j)=some rb):xMN bx.ty j=true/\bx.pm=true/\i<bx.xs.length/\rb=xNc bx ((bx.xs.getD i .top).cells.getD j .top):=by
 obtain ⟨q,h1,h2⟩:=xnV h;rw [hb] at h1;cases h1;rcases h2 with ⟨h2,_⟩|⟨_,h2⟩
 . rw [hC] at h2;cases h2
 . exact h2
theorem xem {H:List Box} {n i j:Nat} {bx:Box} (hb:H[n]?=some bx) (hC:isC bx.ty=true) (hs:xMN bx.ty j=true) (hp:bx.pm=true) (hi:i<bx.xs.length):getB H (.r n i j)=some (xNc bx ((bx.xs.getD i .top).cells.getD j .top)):=by
 simp only [getB,hb,hC];exact if_pos ⟨hs,hp,hi⟩
theorem xch {H:List Box} {n i j:Nat} {bx:Box} (hb:H[n]?=some bx) (hC:isC bx.ty=false):getB H (.r n i j)=some tombB:=by
 simp only [getB,hb,hC]
theorem xfi {t:TypeId} {j:Nat} (h:xMN t j=true):isC t=true:=by
 cases hc:isC t with
 | true=>rfl
 | false=>rw [xsd hc] at h;cases h
theorem xiU {sz:Nat} {x:AV} (h:xNq sz x=true):∃ ys,x=.list sz ys:=by
 cases x<;>first|(simp [xNq] at h;done)|skip
 rename_i z ys;exact ⟨ys,by rw [zg h]⟩
theorem xDk (hR:HR w A M B H) (hA:∀ b,b<w.heap.size->A' b->A b) {n i j sz:Nat} {ys:List AV} {v:Value} {bx:Box} (hb:H[n]?=some bx) (hC:isC bx.ty=true) (hx:(bx.xs.getD i .top).cells.getD j .top=.list sz ys)
  (h:Rel w A M v (xNQ n i j (.list sz ys))) (Q:∀ m,M (.r n i j)=some m->0<m.cap->¬ A' m.b):Rel w A' xMZ v (.list sz ys):=by
 obtain ⟨m,hm,U,h1,he⟩:=Rel.osl_inv h;obtain ⟨rb,g1,g2⟩:=hR.box _ m hm;obtain ⟨g4,g5,g6,g7⟩:=xh2 hb hC g1;rw [hx] at g7;subst g7;have hv:2*ys.length=m.ver:=g2.ver;obtain ⟨e1,a,rfl,e2⟩:=he hv;have hsz:sz=m.sz:=g2.sz;subst hsz;have J:isC (xNc bx (.list m.sz ys)).ty=false:=xbB _;simp only [rowLen,Nat.sub_zero,zH] at e1 e2 |-;by_cases hz:ys=[]
 . subst hz;exact .list0 _ _ _
 . have hl:0<ys.length:=List.length_pos_iff.2 hz;have q:0<m.cap:=by omega
   obtain ⟨c,c1,c2,c3⟩:=g2.cells q
   replace c1:=c1.plain (g2.nomap (xas J))
   have O:=e2 q;subst O;rw [Nat.zero_mul];refine .list m.b 0 m.cap m.sz ys (fun i j=>c.getD (i*m.sz+j) undef) (Q m hm q) (g2.lt q) hz e1 g2.ok (fun i j hi hj=>?_) (fun i j hi hj=>?_)
   . have hk:i*m.sz+j<c.size:=by rw [c2];exact xda (by omega) hj
     rw [zH];simp [World.cell?,c1,hk]
   . have h4:=c3 i j hi hj;rw [xal J,xaF J] at h4;exact h4.mono (fun _ _ _=>rfl) (zd _) hA (MExt.refl _)
theorem xed (hR:HR w A M B H) (hA:∀ b,b<w.heap.size->A' b->A b):∀ (n:Nat) (v:Value) (x y:AV),Rel w A M v x->resolve H n x=some y ->
  (∀ id:Id,id.base∈reach H n x->∀ m,M id=some m->0<m.cap->¬ A' m.b)->Rel w A' xMZ v y
 | 0,v,x,y,hx,h,_=>by
  unfold resolve at h;split at h
  . rename_i hp;cases h;exact (hx.mono (fun _ _ _=>rfl) (zd _) hA (MExt.refl M)).pure hp
  . simp at h
 | n+1,v,x,y,hx,h,hid=>by
  unfold resolve at h;unfold reach at hid;split at h
  . rename_i hp;cases h;exact (hx.mono (fun _ _ _=>rfl) (zd _) hA (MExt.refl M)).pure hp
  rename_i hp;simp only [hp,if_false] at hid;split at h
  . rename_i cs;split at h
    case h_2=>simp at h
    rename_i ds ae;cases h;obtain ⟨vs,rfl,hs,hr⟩:=hx.agg_inv;obtain ⟨e1,e2⟩:=xeb ae;exact .agg vs ds (by omega) fun i hi=>xed hR hA n _ _ _ (hr i (by omega)) (e2 i (by omega)) fun k hk m hm=>hid k (y6.2 ⟨_,xau (by omega),hk⟩) m hm
  . rename_i f cs;split at h
    . simp at h
    rename_i ah;split at h
    case h_2=>simp at h
    rename_i ds ae;cases h;obtain ⟨vs,rfl,hs,hr⟩:=hx.func_inv ah;obtain ⟨e1,e2⟩:=xeb ae;exact .func f vs ds (by omega) (fun i hi=>xed hR hA n _ _ _ (hr i (by omega)) (e2 i (by omega)) fun k hk m hm=>hid k (y6.2 ⟨_,xau (by omega),hk⟩) m hm) fun e=>by rw [ah] at e;cases e
  . rename_i id ver i j;split at h
    case h_2=>simp at h
    rename_i bx U;split at h
    case h_2=>simp at h
    rename_i ys ac;split at h
    case isFalse=>simp at h
    rename_i hi;obtain ⟨hi,Q⟩:=hi;cases h;obtain ⟨m,hm,q,rfl⟩:=xn0 hR hx U;have W:=(xaw U).1;have J:0<m.cap:=by have:=q.fits;omega
    obtain ⟨c,h1,h2,h3⟩:=q.cells J
    replace h1:=h1.plain (q.nomap (xci U))
    obtain ⟨e1,e2,e0,e3⟩:=xzk ac (fun x hx=>q.ok x hx)
    have hsz:=q.sz;have ad:∀ i j,i<bx.xs.length->j<m.sz->w.cell? ⟨m.b,i*m.sz+j,none⟩=some (c.getD (i*m.sz+j) undef):=by
     intro i j hi hj;have hk:i*m.sz+j<c.size:=by rw [h2];exact xda (Nat.lt_of_lt_of_le hi q.fits) hj
     simp [World.cell?,h1,hk]
    have ab:¬ A' m.b:=hid id (by simp) m hm J
    have:=Rel.eptr (w:=w) (A:=A') (M:=xMZ) m.b 0 m.sz ys i j (fun i j=>c.getD (i*m.sz+j) undef) ab (q.lt J) (by omega) e2
     (fun i j hi hj=>by rw [zH];exact ad i j (by omega) hj)
     (fun i j hi hj=>by
      have h4:=h3 i j (by omega) hj
      rw [xal Q,xaF Q] at h4;by_cases O:bx.pm=true
      . rw [e0 O];rw [O] at h4;exact h4.mono (fun _ _ _=>rfl) (zd _) hA (MExt.refl _)
      . refine xed hR hA n _ _ _ h4.unmp (e3 O i j (by omega) hj) fun k hk m' Y=>?_
        refine hid k (List.mem_cons_of_mem _ (xHD W O (xau (show i<bx.xs.length by omega)) ?_ hk)) m' Y
        have hl:=xan (q.ok _ (xau (show i<bx.xs.length by omega)))
        exact xau (by omega))
    rw [zH] at this;rw [hsz];exact this
  . rename_i id ver off len;split at h
    case h_2=>simp at h
    rename_i bx U;split at h
    case h_2=>simp at h
    rename_i ys ac;split at h
    case isFalse=>simp at h
    rename_i ag;obtain ⟨ag,Q⟩:=ag;cases h;obtain ⟨m,a,hm,q,am,rfl,ha⟩:=xjy hR hx U;have W:=(xaw U).1;have af:∀ x,x∈(bx.xs.drop off).take len->x∈bx.xs:=fun x hx=>List.mem_of_mem_drop (List.mem_of_mem_take hx)
    obtain ⟨e1,e2,e0,e3⟩:=xzk ac (fun x hx=>q.ok x (af x hx))
    have aa:((bx.xs.drop off).take len).length=len:=by simp;omega
    have hg:∀ i,i<len->((bx.xs.drop off).take len).getD i .top=bx.xs.getD (off+i) .top:=fun i hi=>by
     simp [z7,List.getElem?_take,hi,List.getElem?_drop]
    have hsz:=q.sz;rw [aa] at e1;rw [hsz];by_cases hz:len=0
    . have:ys=[]:=zA (by omega)
      subst this;subst hz;exact .list0 _ _ _
    . have aj:=ha (by omega);subst aj
      have J:0<m.cap:=by omega
      obtain ⟨c,h1,h2,h3⟩:=q.cells J
      replace h1:=h1.plain (q.nomap (xci U))
      have ab:¬ A' m.b:=hid id (by simp) m hm J
      have:=Rel.list (w:=w) (A:=A') (M:=xMZ) m.b (off*m.sz) (m.cap - off) m.sz ys (fun i j=>c.getD ((off+i)*m.sz+j) undef) ab (q.lt J) (by intro e;subst e;simp at e1;omega) (by omega) e2
       (fun i j hi hj=>by
        have hk:(off+i)*m.sz+j<c.size:=by rw [h2];exact xda (by omega) hj
        rw [show off*m.sz+i*m.sz+j=(off+i)*m.sz+j by rw [Nat.add_mul]]
        simp [World.cell?,h1,hk])
       (fun i j hi hj=>by
        have h4:=h3 (off+i) j (by omega) hj
        cases V:xMN bx.ty j with
        | true =>
         have hc:=xfi V;unfold rowsOk at Q;rw [hc] at Q;simp only [xNg,zf,zI] at Q;have hj':j=xMS bx.ty:=by unfold xMN at V;rw [hc] at V;exact zg V
         obtain ⟨zs,Z⟩:=xiU (Q.2 _ (xau (xs:=(bx.xs.drop off).take len) (i:=i) (by omega)))
         rw [hg i (by omega),<-hj'] at Z
         rw [e0 Q.1,hg i (by omega),Z]
         unfold xM9 MV at h4;simp only [V] at h4;rw [Z] at h4;cases id with
         | b nn=>exact xDk hR hA W hc Z h4 fun m' Y h0=>hid (.r nn (off+i) j) (by simp [Id.base]) m' Y h0
         | r nn i' j' =>
          obtain ⟨an,_,⟨_,rfl⟩|⟨_,_,_,_,rfl⟩⟩:=xnV W
          . cases hc
          . rw [xBk,xbB] at hc;cases hc
        | false =>
        have ak:xM9 id.base (off+i) j bx.ty ((bx.xs.getD (off+i) .top).cells.getD j .top)=(bx.xs.getD (off+i) .top).cells.getD j .top:=by unfold xM9;rw [V]
        have al:MV M bx j=MP M bx.pm:=by unfold MV;rw [V]
        rw [ak,al] at h4;by_cases O:bx.pm=true
        . rw [e0 O,hg i (by omega)]
          rw [O] at h4;exact h4.mono (fun _ _ _=>rfl) (zd _) hA (MExt.refl _)
        . have h5:=e3 O i j (by rw [aa];omega) hj
          rw [hg i (by omega)] at h5
          refine xed hR hA n _ _ _ h4.unmp h5 fun k hk m' Y=>?_
          have ai:bx.xs.getD (off+i) .top∈(bx.xs.drop off).take len:=by rw [<-hg i (by omega)];exact xau (by omega)
          refine hid k (List.mem_cons_of_mem _ (xHE W O ai ?_ hk)) m' Y;have hl:=xan (q.ok _ (xau (show off+i<bx.xs.length by omega)))
          exact xau (by omega))
      rw [e1] at this;exact this
  . simp at h
end
end Go.Sim
namespace Go.Sim
open Go.RowKit
def xNm (H:List Box) (sz:Nat):AV->Option (List AV×Bool)
 | .nils=>some ([],true)
 | .list sz' xs=>if sz'=sz then some (xs,true) else none
 | .osl id ver off len=>match xMP H id ver with
  | some bx=>if bx.sz=sz/\off+len<=bx.xs.length/\isC bx.ty=false then some ((bx.xs.drop off).take len,bx.pm) else none
  | none=>none
 | _=>none
def putCells (e:AV) (j n sz:Nat) (v:AV):AV:=if j=0/\n=sz then v else .agg (e.cells.take j++v.cells++e.cells.drop (j+n))
def absSrc (P:Program) (H:List Box) (t tt e:TypeId) (sz:Nat) (x:AV):Option (List AV×Bool) :=
 if t=tt then xNm H sz x else
  match xML P tt,xML P e,x with
  | some tj,some te,.str s=>match tj.d,te.d with
   | .string,.int .u8=>if te.sz=1 then some (s.map fun (u:UInt8)=>.int .u8 u.toNat,true) else none
   | _,_=>none
  | _,_,_=>none
def absApp (H:List Box) (e:TypeId) (te:TI) (s:AV) (ys:List AV) (pm:Bool):Option (AV×List Box) :=
 match s with
 | .nils=>if 0<te.sz/\ys.length*te.bytes<=140737488355328/\ys.length<=xNA/\te.zero.okElem te.sz=true then some (.osl H.length 0 0 ys.length,H++[⟨0,te.sz,e,ys,false,pm⟩]) else none
 | .osl (.b id) ver off len=>match xMP H id ver with
  | some bx=>if off=0/\len=bx.xs.length/\bx.frz=false/\bx.sz=te.sz/\bx.ty=e/\0<te.sz/\(len+ys.length)*te.bytes<=140737488355328/\len+ys.length<=xNA/\te.zero.okElem te.sz=true then
   some (.osl id (ver+1) 0 (len+ys.length),H.set id ⟨ver+1,te.sz,e,bx.xs++ys,false,bx.pm&&pm⟩) else none
  | none=>none
 | _=>none
def xNP (P:Program) (H:List Box) (t tt:TypeId) (s x:AV):Option (AV×List Box) :=
 match xML P t with
 | some ti=>match ti.d with
  | .slice e=>match xML P e with
   | some te=>match absSrc P H t tt e te.sz x with
    | some (ys,pm)=>absApp H e te s ys pm
    | none=>none
   | none=>none
  | _=>none
 | none=>none
def absStore (P:Program) (H:List Box) (t:TypeId) (a v:AV):Option (List Box) :=
 match xML P t,a with
 | some ti,.own (.b id) ver i j=>match xMP H id ver with
  | some bx=>match bx.xs[i]? with
   | some e=>if bx.frz=false/\v.okElem ti.sz=true/\j+ti.sz<=bx.sz/\isC bx.ty=false then some (H.set id ⟨ver,bx.sz,bx.ty,bx.xs.set i (putCells e j ti.sz bx.sz v),false,bx.pm&&v.pure⟩) else none
   | none=>none
  | none=>none
 | _,_=>none
def absClear (P:Program) (H:List Box) (t:TypeId) (x:AV):Option (List Box) :=
 match xML P t with
 | some ti=>match ti.d with
  | .slice e=>match xML P e with
   | some te=>match x with
    | .osl (.b id) ver off len=>match xMP H (.b id) ver with
     | some bx=>if bx.frz=false/\bx.sz=te.sz/\off+len<=bx.xs.length/\te.zero.okElem te.sz=true/\te.zero.pure=true/\isC bx.ty=false then
      some (H.set id ⟨ver,bx.sz,bx.ty,bx.xs.take off++(List.replicate len te.zero++bx.xs.drop (off+len)),false,bx.pm⟩) else none
     | none=>none
    | _=>none
   | none=>none
  | _=>none
 | none=>none
theorem xkr (l:List AV):(AV.agg l).cells=l:=rfl
def xND (l:List Value) (o:Nat) (vs:List Value):List Value:=l.take o++vs++l.drop (o+vs.length)
theorem xhs {l:List Value} {o:Nat} {vs:List Value} (h:o+vs.length<=l.length) (k:Nat) :
  (xND l o vs).getD k undef=if o<=k/\k<o+vs.length then vs.getD (k - o) undef else l.getD k undef:=by
 have h1:min o l.length=o:=by omega
 simp only [xND,zw,z7,zP,zt,h1];by_cases hk:k<o
 . simp [hk,List.getElem?_take,show ¬ o<=k by omega]
 . by_cases q:k<o+vs.length
   . simp [hk,show k - o<vs.length by omega,q,show o<=k by omega]
   . simp only [hk,if_false,show ¬ (k - o<vs.length) by omega,q,and_false,List.getElem?_drop]
     congr 2;omega
theorem xjF {l:List Value} {o:Nat} {vs:List Value} (h:o+vs.length<=l.length):(xND l o vs).length=l.length:=by
 simp [xND];omega
section
variable {P : Program} {w : World} {A : Nat -> Prop} {M : Id -> Option MB} {B : Nat} {H : List Box}
theorem xeO (l:List Value) (k:Nat):l.toArray.getD k undef=l.getD k undef:=by simp [z7,zu]
theorem xbV (c:Array Value) (k:Nat):c.toList.getD k undef=c.getD k undef:=by simp [z7,zu]
def MSet (M:Id->Option MB) (id:Id) (m:MB):Id->Option MB:=fun i=>if i=id then some m else M i
theorem xpj {id:Id} {m m':MB} (hm:M id=some m) (h:m'=m\/m.ver<m'.ver):MExt M (MSet M id m'):=fun i m1 h1=>by
 by_cases hi:i=id
 . subst hi;rw [hm] at h1;cases h1;exact ⟨m',by simp [MSet],h⟩
 . exact ⟨m1,by simp [MSet,hi,h1],.inl rfl⟩
def Touch (w w':World) (M M':Id->Option MB):Prop :=
 (∀ b,b<w.heap.size->(∀ id m,M id=some m->0<m.cap->m.b≠b)->w'.heap[b]?=w.heap[b]?) /\
 ∀ id m',M' id=some m'->0<m'.cap->(∃ i m,M i=some m/\0<m.cap/\m'.b=m.b)\/w.heap.size<=m'.b
theorem Touch.of_new {w w':World} {M M':Id->Option MB} (hb:Below w.heap.size w w') (h:∀ id m,M' id=some m->M id=some m\/w.heap.size<=m.b):Touch w w' M M' :=
 ⟨fun b h _=>hb.block b h,fun id m' hm h0=>(h id m' hm).imp (fun h=>⟨id,m',h,h0,rfl⟩) (fun h=>h)⟩
theorem xaT (H:List Box) (n:Nat):getB H (.b n)=H[n]?:=rfl
theorem xpg {id:Id} {bx:Box} (hb:getB H id=some bx):id.base<H.length:=by
 cases id with
 | b n=>rw [xaT] at hb;exact xbO hb
 | r n i j =>
  obtain ⟨q,h,_⟩:=xnV hb;exact xbO h
theorem xwT {id:Id} {bx:Box} {l:List Box} (hb:getB H id=some bx):getB (H++l) id=some bx:=by
 rw [<-hb];exact xnU (zO (xpg hb))
theorem xDU {n:Nat} {j:Id} {bx':Box} (h:j.base≠n):getB (H.set n bx') j=getB H j :=
 xnU (by rw [zX (Ne.symm h)])
theorem xbT {n:Nat} {bx bx':Box} (hb:H[n]?=some bx) (J:isC bx.ty=false) (q:isC bx'.ty=false) {j:Id} (hne:j≠.b n):getB (H.set n bx') j=getB H j:=by
 by_cases hj:j.base=n
 . cases j with
   | b k=>exact absurd (by rw [<-hj];rfl) hne
   | r k i l =>
    simp only [Id.base] at hj;subst hj;rw [xch hb J,xch (zL (xbO hb)) q]
 . exact xDU hj
theorem xo2 (hR:HR w A M B H) {id:Nat} {m m':MB} {bx bx':Box} (q:0<m.cap) (hm:M (.b id)=some m) (hb:H[id]?=some bx) (O:BoxAt w A M B (.b id) m bx) (ac:isC bx.ty=false) (Q:isC bx'.ty=false) (ad:bx.frz=false) {c':Array Value}
  (e1:m'.b=m.b) (e2:m'.cap=m.cap) (e3:m'.sz=m.sz) (e4:m'.ty=m.ty) (e5:m'=m\/m.ver<m'.ver) (f1:bx'.ver=m'.ver) (f2:bx'.sz=m'.sz) (f3:bx'.ty=m'.ty) (f4:bx'.frz=false)
  (Z:bx'.xs.length<=m.cap) (af:∀ x,x∈bx'.xs->x.okElem m.sz=true) (hsz:c'.size=m.cap*m.sz)
  (hc:∀ i j,i<bx'.xs.length->j<m.sz->Rel w A (MP M bx'.pm) (c'.getD (i*m.sz+j) undef) ((bx'.xs.getD i .top).cells.getD j .top)) :
  HR (w.setRow m.b c') A (MSet M (.b id) m') B (H.set id bx')/\MExt M (MSet M (.b id) m')/\(∀ b,b<w.heap.size->¬ A b->(w.setRow m.b c').heap[b]?=w.heap[b]?)/\Below B w (w.setRow m.b c')/\Touch w (w.setRow m.b c') M (MSet M (.b id) m')/\A m.b:=by
 have Y:A m.b:=(O.guard q).1 ad;have U:MExt M (MSet M (.b id) m'):=xpj hm e5;have hs:(w.setRow m.b c').heap.size=w.heap.size:=by simp [World.setRow]
 have hw:∀ b,b<w.heap.size->¬ A b->(w.setRow m.b c').heap[b]?=w.heap[b]?:=fun b _ hb=>setRow_other w m.b b c' fun e=>hb (e▸Y)
 obtain ⟨c,h1,h2,h3⟩:=O.cells q;have ab:xMO m.ty=false:=O.nomap (xas ac)
 replace h1:=h1.plain ab
 refine ⟨⟨?_,?_,fun b hb=>by rw [hs];exact hR.lt b hb⟩,U,hw,⟨rfl,rfl,rfl,by rw [hs];exact zd _,fun k hk=>setRow_other w m.b k c' fun e=>by have:=O.low q;omega⟩,⟨fun b _ hb=>setRow_other w m.b b c' fun e=>hb (.b id) m hm q e.symm,fun i m1 J _=>?_⟩,Y⟩
 . intro i m1 J;by_cases hi:i=.b id
   . subst hi;have:m1=m':=by simp [MSet] at J;exact J.symm
     subst this;refine ⟨bx',by rw [xaT,zL (xbO hb)],⟨f1,f2,by rw [xaH Q];exact f3,by rw [e2];exact O.capm,by rw [e2];exact Z,by rw [e3];exact af,fun _=>by rw [e1];exact O.low q,fun _=>by rw [e1,hs];exact O.lt q,fun _=>⟨c',.of (by rw [e4];exact ab) (by rw [e1,e4];exact setRow_heap w m.b c c' m.ty (0,0) h1),by rw [e2,e3];exact hsz,?_⟩,fun _=>⟨fun _=>by rw [e1];exact Y,fun _=>f4⟩⟩⟩
     intro i j hi hj;rw [e3] at hj |-;rw [xal Q,xaF Q];exact (hc i j hi hj).mono hw (by rw [hs];exact zd _) (fun b _ h=>h) (xwy U _)
   . have aa:M i=some m1:=by simpa [MSet,hi] using J
     obtain ⟨ae,g1,g2⟩:=hR.box i m1 aa;have hne:0<m1.cap->m1.b≠m.b:=fun h0 e=>hi (hR.inj i (.b id) m1 m aa hm h0 q e)
     exact ⟨ae,by rw [xbT hb ac Q hi];exact g1,g2.mono (fun h0=>setRow_other w m.b m1.b c' (hne h0)) hw (by rw [hs];exact zd _) (fun b _ h=>h) g2.guard U⟩
 . intro i i' m1 m2 J W c1 c2 he;by_cases hi:i=.b id<;>by_cases V:i'=.b id
   . rw [hi,V]
   . have g1:m1=m':=by simp [MSet,hi] at J;exact J.symm
     have g2:M i'=some m2:=by simpa [MSet,V] using W
     rw [hi];exact hR.inj (.b id) i' m m2 hm g2 q c2 (by rw [<-he,g1,e1])
   . have g1:m2=m':=by simp [MSet,V] at W;exact W.symm
     have g2:M i=some m1:=by simpa [MSet,hi] using J
     rw [V];exact hR.inj i (.b id) m1 m g2 hm c1 q (by rw [he,g1,e1])
   . exact hR.inj i i' m1 m2 (by simpa [MSet,hi] using J) (by simpa [MSet,V] using W) c1 c2 he
 . by_cases hi:i=.b id
   . have g1:m1=m':=by simp [MSet,hi] at J;exact J.symm
     exact .inl ⟨.b id,m,hm,q,by rw [g1,e1]⟩
   . rename_i h0;exact .inl ⟨i,m1,by simpa [MSet,hi] using J,h0,rfl⟩
theorem xGS (hR:HR w A M B H) {id:Nat} {m m':MB} {bx bx':Box} (U:m.cap=0) (hm:M (.b id)=some m) (hb:H[id]?=some bx) (Z:isC bx.ty=false) (O:isC bx'.ty=false)
  (e2:m'.cap=m.cap) (e3:m'.sz=m.sz) (e5:m'=m\/m.ver<m'.ver) (f1:bx'.ver=m'.ver) (f2:bx'.sz=m'.sz) (f3:bx'.ty=m'.ty) (f5:bx'.xs=[]) :
  HR w A (MSet M (.b id) m') B (H.set id bx')/\MExt M (MSet M (.b id) m')/\Touch w w M (MSet M (.b id) m'):=by
 have J:MExt M (MSet M (.b id) m'):=xpj hm e5;have hc:∀ {p:Prop},0<m'.cap->p:=fun h=>absurd h (by omega)
 refine ⟨⟨?_,?_,hR.lt⟩,J,⟨fun _ _ _=>rfl,fun i m1 q h0=>?_⟩⟩
 . intro i m1 q;by_cases hi:i=.b id
   . subst hi;have:m1=m':=by simp [MSet] at q;exact q.symm
     subst this;exact ⟨bx',by rw [xaT,zL (xbO hb)],⟨f1,f2,by rw [xaH O];exact f3,by rw [e2,U];exact zQ _,by rw [f5];exact zQ _,by rw [f5];simp,hc,hc,hc,hc⟩⟩
   . have Y:M i=some m1:=by simpa [MSet,hi] using q
     obtain ⟨W,g1,g2⟩:=hR.box i m1 Y;exact ⟨W,by rw [xbT hb Z O hi];exact g1,g2.mono (fun _=>rfl) (fun _ _ _=>rfl) (zd _) (fun b _ h=>h) g2.guard J⟩
 . intro i i' m1 m2 q Q c1 c2 he;by_cases hi:i=.b id
   . have g1:m1=m':=by simp [MSet,hi] at q;exact q.symm
     rw [g1] at c1;exact hc c1
   . by_cases V:i'=.b id
     . have g1:m2=m':=by simp [MSet,V] at Q;exact Q.symm
       rw [g1] at c2;exact hc c2
     . exact hR.inj i i' m1 m2 (by simpa [MSet,hi] using q) (by simpa [MSet,V] using Q) c1 c2 he
 . by_cases hi:i=.b id
   . have g1:m1=m':=by simp [MSet,hi] at q;exact q.symm
     rw [g1] at h0;exact hc h0
   . exact .inl ⟨i,m1,by simpa [MSet,hi] using q,h0,rfl⟩
def Writes (P:Program) (o:Oper) (ρc:Operand->Value) (w:World) (A:Nat->Prop) (M:Id->Option MB) (B:Nat) (x:AV) (H':List Box):Prop :=
 ∃ n w' A' M' v,(execOp ρc o).run P w=.ok n w'/\((n=.value v)\/(n=.skip/\v=undef))/\Below B w w'/\MExt M M'/\(∀ b,b<w.heap.size->(A' b↔A b))/\(∀ b,b<w.heap.size->¬ A b->w'.heap[b]?=w.heap[b]?)/\Touch w w' M M'/\HR w' A' M' B H'/\Rel w' A' M' v x
theorem xGU {v:Value} {x:AV} (h:Rel w A M v x) (hx:x.cells.all AV.one=true):∀ u,u∈v.cells.toList->u.oneCell'=true:=by
 intro u hu;obtain ⟨h1,h2⟩:=h.cells hx;obtain ⟨i,hi,rfl⟩:=zp.1 hu;have hi':i<x.cells.length:=by simp at hi;omega
 have:=h2 i hi';have e:v.cells.getD i undef=v.cells.toList[i]:=by simp at hi;simp [hi]
 rw [e] at this;refine this.oneCell ?_;rw [zI] at hx;exact hx _ (xau hi')
theorem xEg (hR:HR w A M B H) {o:Oper} {ρc:Operand->Value} {t:TypeId} {oa ov:Operand} {xa xv:AV} {H':List Box} (ho:o.op=.store t oa ov) (ha:Rel w A M (ρc oa) xa) (hv:Rel w A M (ρc ov) xv) (h:absStore P H t xa xv=some H') :
  Writes P o ρc w A M B (.tuple []) H':=by
 unfold absStore at h;split at h
 case h_2=>simp at h
 rename_i ti id ver i j ar;split at h
 case h_2=>simp at h
 rename_i bx ag;split at h
 case h_2=>simp at h
 rename_i e he;split at h
 case isFalse=>simp at h
 rename_i au;obtain ⟨am,ae,az,O⟩:=au;cases h;obtain ⟨m,hm,q,an⟩:=xn0 hR ha ag;obtain ⟨al,aw⟩:=xaw ag;have Q:0<m.cap:=by
  have:=q.fits;have:0<bx.xs.length:=List.length_pos_of_mem (List.mem_of_getElem? he);omega
 obtain ⟨c,h1,h2,h3⟩:=q.cells Q
 replace h1:=h1.plain (q.nomap (xas O))
 replace h3:∀ i j,i<bx.xs.length->j<m.sz->Rel w A (MP M bx.pm) (c.getD (i*m.sz+j) undef) ((bx.xs.getD i .top).cells.getD j .top):=fun i j hi hj=>by
  have:=h3 i j hi hj;rw [xal O,xaF O] at this;exact this
 have hty':bx.ty=m.ty:=by rw [<-q.ty,xaH O]
 have aj:=xan ae;have J:=xaE ae;have ak:=xyD hv J;have ai:(ρc ov).cells.size=ti.sz:=by have:=ak.1;simp at this;omega
 have hi:i<bx.xs.length:=by
  rcases zJ i bx.xs.length with h'|h'
  . exact h'
  . simp [zz h'] at he
 have ap:bx.xs.getD i .top=e:=by simp [z7,he]
 have ay:=xan (q.ok e (List.mem_of_getElem? he));have hsz:=q.sz;have aq:i*m.sz+m.sz<=c.size:=by
  rw [h2];have:(i+1)*m.sz<=m.cap*m.sz:=Nat.mul_le_mul_right _ (Nat.le_trans hi q.fits);rw [Nat.add_mul,Nat.one_mul] at this;exact this
 have Y:i*m.sz+j+(ρc ov).cells.toList.length<=c.toList.length:=by simp;omega
 have U:(putCells e j ti.sz bx.sz xv).cells.length=m.sz/\(∀ k,k<m.sz->(putCells e j ti.sz bx.sz xv).cells.getD k .top=if j<=k/\k<j+ti.sz then xv.cells.getD (k - j) .top else e.cells.getD k .top)/\(putCells e j ti.sz bx.sz xv).cells.all AV.one=true:=by
  unfold putCells;split
  . rename_i hw;obtain ⟨rfl,hw⟩:=hw;exact ⟨by omega,fun k hk=>by rw [if_pos (by omega)];simp,J⟩
  . have ah:min j e.cells.length=j:=by omega
    refine ⟨by rw [xkr];simp;omega,fun k hk=>?_,?_⟩
    . simp only [xkr,zw,z7,zP,zt,ah];by_cases Z:k<j
      . simp [Z,List.getElem?_take,show ¬ j<=k by omega]
      . by_cases ac:k<j+ti.sz
        . simp [Z,aj,show k - j<ti.sz by omega,ac,show j<=k by omega]
        . simp only [Z,if_false,aj,show ¬ (k - j<ti.sz) by omega,ac,and_false,List.getElem?_drop]
          congr 2;omega
    . have h5:=xaE (q.ok e (List.mem_of_getElem? he));rw [zI] at h5 J;simp only [xkr,List.all_append,zf,zI];exact ⟨⟨fun x hx=>h5 x (List.mem_of_mem_take hx),J⟩,fun x hx=>h5 x (List.mem_of_mem_drop hx)⟩
 have ab:=run_storeCells_at P m.b (i*m.sz+j) m.ty (ρc ov).cells.toList 0 c w h1 (by simp;omega) (xGU hv J)
 simp only [Nat.add_zero] at ab;obtain ⟨g1,g2,g3,g4,gt,g5⟩:=xo2 (m':=m) (bx':=⟨ver,bx.sz,bx.ty,bx.xs.set i (putCells e j ti.sz bx.sz xv),false,bx.pm&&xv.pure⟩) hR Q hm al q O O am (c':=(xND c.toList (i*m.sz+j) (ρc ov).cells.toList).toArray) rfl rfl rfl rfl (.inl rfl)
  (by rw [<-q.ver,<-aw]) hsz hty' rfl (by simpa using q.fits)
  (fun x hx=>by
   rcases List.mem_or_eq_of_mem_set hx with hx|rfl
   . exact q.ok x hx
   . simp only [AV.okElem,U.1,beq_self_eq_true,Bool.true_and];exact U.2.2)
  (by have:=xjF Y;simp at this |-;omega)
  (fun i' j' W V=>by
   simp at W;rw [xeO,xhs Y];have ad:(ρc ov).cells.toList.length=ti.sz:=by simpa using ai
   by_cases af:i'=i
   . subst af;have e1:(bx.xs.set i' (putCells e j ti.sz bx.sz xv)).getD i' .top=putCells e j ti.sz bx.sz xv:=by simp [z7,W]
     rw [e1,U.2.1 j' V,ad];by_cases aa:j<=j'/\j'<j+ti.sz
     . rw [if_pos (by omega),if_pos aa,show i'*m.sz+j' - (i'*m.sz+j)=j' - j by omega]
       exact (ak.2 _ (by omega)).mp fun hp=>xfB (xn1 (zf _ _▸hp).2) _
     . rw [if_neg (by omega),if_neg aa,xbV]
       have:=h3 i' j' W V;rw [ap] at this;exact this.mp_and
   . have e1:(bx.xs.set i (putCells e j ti.sz bx.sz xv)).getD i' .top=bx.xs.getD i' .top:=by simp [z7,List.getElem?_set,show ¬ i=i' from fun h=>af h.symm]
     rw [e1,ad,if_neg,xbV]
     . exact (h3 i' j' W V).mp_and
     . intro aa;rcases zJ i' i with ao|ax
       . have:i'*m.sz+j'<i*m.sz:=xda ao V;omega
       . have h6:(i+1)*m.sz<=i'*m.sz:=Nat.mul_le_mul_right _ (by omega)
         rw [Nat.add_mul,Nat.one_mul] at h6;omega)
 refine ⟨.skip,_,A,_,undef,?_,.inr ⟨rfl,rfl⟩,g4,g2,fun _ _=>Iff.rfl,g3,gt,g1,.tuple #[] [] rfl (by simp)⟩
 simp only [execOp,ho,an,Instr.storeAt,Instr.sureAddr,storeVar,Sem.run_bind,Sem.run_pure,Result.andThen_ok,xcO ar,ai,ne_eq,not_true,if_false];rw [ab];rfl
end
end Go.Sim
namespace Go.Sim
open Go.RowKit
section
variable {P : Program} {w : World} {A : Nat -> Prop} {M : Id -> Option MB} {B : Nat} {H : List Box}
theorem xz0 (hR:HR w A M B H) {sz:Nat} {v:Value} {x:AV} {ys:List AV} {pm:Bool} (hx:Rel w A M v x) (h:xNm H sz x=some (ys,pm)) :
  (ys=[]/\∃ a c,v=.slice a 0 c)\/∃ b o c,v=.slice (some ⟨b,o,none⟩) ys.length c/\(∀ y,y∈ys->y.okElem sz=true) /\
   ∀ i j,i<ys.length->j<sz->∃ u,w.cell? ⟨b,o+(i*sz+j),none⟩=some u/\Rel w A (MP M pm) u ((ys.getD i .top).cells.getD j .top):=by
 unfold xNm at h;split at h
 . simp only [z6,zb] at h;obtain ⟨rfl,rfl⟩:=h;cases hx;exact .inl ⟨rfl,none,0,rfl⟩
 . split at h
   case isFalse=>simp at h
   rename_i hs;subst hs;simp only [z6,zb] at h;obtain ⟨rfl,rfl⟩:=h;cases hx with
   | list0 a cap _=>exact .inl ⟨rfl,a,cap,rfl⟩
   | list b off cap _ _ val ha hb hne hcap hsz hc hr =>
    exact .inr ⟨b,off,cap,rfl,hsz,fun i j hi hj=>⟨val i j,by rw [<-Nat.add_assoc];exact hc i j hi hj,hr i j hi hj⟩⟩
 . rename_i id ver off len;split at h
   case h_2=>simp at h
   rename_i bx U;split at h
   case isFalse=>simp at h
   rename_i V;obtain ⟨hsz,Z,O⟩:=V;simp only [z6,zb] at h;obtain ⟨rfl,rfl⟩:=h;obtain ⟨m,a,hm,q,Y,rfl,ha⟩:=xjy hR hx U;have Q:m.sz=sz:=by rw [<-q.sz,hsz]
   have J:((bx.xs.drop off).take len).length=len:=by simp;omega
   by_cases hz:len=0
   . subst hz;exact .inl ⟨by simp,a,_,rfl⟩
   . have W:=ha (by omega);subst W
     refine .inr ⟨m.b,off*m.sz,m.cap - off,by rw [J],fun y hy=>by rw [<-Q];exact q.ok y (List.mem_of_mem_drop (List.mem_of_mem_take hy)),fun i j hi hj=>?_⟩
     rw [J] at hi;rw [<-Q] at hj |-;have:=q.cell' (q.nomap (xas O)) (show off+i<bx.xs.length by omega) hj
     rw [xal O,xaF O] at this;rw [Nat.add_mul,Nat.add_assoc] at this;have hg:((bx.xs.drop off).take len).getD i .top=bx.xs.getD (off+i) .top:=by
      simp [z7,List.getElem?_take,hi,List.getElem?_drop]
     rwa [hg]
 . simp at h
theorem xtk {t ty e:TypeId} {i:TypeInfo} (ht:P.underlying t=some (.slice e)) (hi:P.info? e=some i) (b:Option Addr) (len cap:Nat) (q:len<=cap) (a:Option Addr) (c:Nat) :
  (Builtin.append_ #[t,t] ty #[.slice b len cap,.slice a 0 c]).run P w=.ok (.slice b len cap) w:=by
 cases a<;>cases b<;>simp [Builtin.append_,run_underlying ht,sizeOf,typeInfo,hi,Builtin.lenOf,Builtin.firstCells,loadCells,loadCellsFrom,q,storeCells]
def xNa (w:World) (b o n:Nat):List Value:=(List.range n).map fun k=>(w.cell? ⟨b,o+k,none⟩).getD undef
theorem xir (w:World) (b o n:Nat):(xNa w b o n).length=n:=by simp [xNa]
theorem xBT {b o n k:Nat} (hk:k<n):(xNa w b o n).getD k undef=(w.cell? ⟨b,o+k,none⟩).getD undef:=by
 simp [xNa,z7,hk]
theorem xAI {k n sz:Nat} (hk:k<n*sz):k / sz<n:=Nat.div_lt_of_lt_mul (by rwa [Nat.mul_comm])
section src
variable {ys : List AV} {sz b o : Nat} (hsz : 0 < sz) (hs : ∀ i j, i < ys.length -> j < sz -> ∃ u, w.cell? ⟨b, o + (i * sz + j), none⟩ = some u /\ Rel w A M u ((ys.getD i .top).cells.getD j .top))
include hsz hs
theorem xDo {k:Nat} (hk:k<ys.length*sz):∃ u,w.cell? ⟨b,o+k,none⟩=some u/\Rel w A M u ((ys.getD (k / sz) .top).cells.getD (k % sz) .top):=by
 have:=hs (k / sz) (k % sz) (xAI hk) (Nat.mod_lt _ hsz);rwa [Nat.mul_comm,Nat.div_add_mod] at this
theorem xyR (j:Nat) (u:Value) (h:(xNa w b o (ys.length*sz))[j]?=some u):w.cell? ((⟨b,o,none⟩:Addr).add j)=some u:=by
 have hj:j<ys.length*sz:=by
  rcases zJ j (ys.length*sz) with h'|h'
  . exact h'
  . rw [zz (by rw [xir];exact h')] at h;simp at h
 obtain ⟨u',hu,_⟩:=xDo hsz hs hj;rw [xf0,hu];simp [xNa,hj,hu] at h;rw [h]
omit hsz in
theorem xKc {i j:Nat} (hi:i<ys.length) (hj:j<sz):Rel w A M ((xNa w b o (ys.length*sz)).getD (i*sz+j) undef) ((ys.getD i .top).cells.getD j .top):=by
 obtain ⟨u,hu,hr⟩:=hs i j hi hj;rw [xBT (xda hi hj),hu];exact hr
theorem xKb (q:∀ y,y∈ys->y.okElem sz=true):∀ u,u∈xNa w b o (ys.length*sz)->u.oneCell'=true:=by
 intro u hu;obtain ⟨k,hk,rfl⟩:=zp.1 hu;have hk':k<ys.length*sz:=by rwa [xir] at hk
 obtain ⟨u',J,hr⟩:=xDo hsz hs hk';have e:(xNa w b o (ys.length*sz))[k]=u':=by simp [xNa,J]
 rw [e];have hi:=xAI hk';have h1:=xaE (q _ (xau hi));have hl:=xan (q _ (xau hi));rw [zI] at h1;exact hr.oneCell (h1 _ (xau (by rw [hl];exact Nat.mod_lt _ hsz)))
end src
theorem xyZ {xs ys:List AV} {c:List Value} {sz:Nat} {news:List Value} (hn:news.length=ys.length*sz)
  (O:∀ i j,i<xs.length->j<sz->Rel w A M (c.getD (i*sz+j) undef) ((xs.getD i .top).cells.getD j .top))
  (Q:∀ i j,i<ys.length->j<sz->Rel w A M (news.getD (i*sz+j) undef) ((ys.getD i .top).cells.getD j .top))
  {c':List Value} (h1:∀ k,k<xs.length*sz->c'.getD k undef=c.getD k undef) (h2:∀ k,k<ys.length*sz->c'.getD (xs.length*sz+k) undef=news.getD k undef) :
  ∀ i j,i<(xs++ys).length->j<sz->Rel w A M (c'.getD (i*sz+j) undef) (((xs++ys).getD i .top).cells.getD j .top):=by
 intro i j hi hj;by_cases q:i<xs.length
 . have e:(xs++ys).getD i .top=xs.getD i .top:=by simp [z7,zP,q]
   rw [e,h1 _ (xda q hj)];exact O i j q hj
 . have e:(xs++ys).getD i .top=ys.getD (i - xs.length) .top:=by simp [z7,zP,q]
   have J:i - xs.length<ys.length:=by simp at hi;omega
   have e2:i*sz+j=xs.length*sz+((i - xs.length)*sz+j):=by
    rw [<-Nat.add_assoc,<-Nat.add_mul,show xs.length+(i - xs.length)=i by omega]
   rw [e,e2,h2 _ (xda J hj)];exact Q _ j J hj
theorem xvl {xs ys:List AV} {sz:Nat} (hx:∀ x,x∈xs->x.okElem sz=true) (hy:∀ x,x∈ys->x.okElem sz=true):∀ x,x∈xs++ys->x.okElem sz=true:=fun x q=>by
 rcases zG.1 q with h|h
 . exact hx x h
 . exact hy x h
theorem HR.drew (hR:HR w A M B H):HR w.drew A M B H:=hR.grow ⟨rfl,rfl,rfl,zd _,fun _ _=>rfl⟩
theorem HR.ext {H':List Box} (hR:HR w A M B H) (h:∀ n,n<H.length->(∃ id m,id.base=n/\M id=some m)->H'[n]?=H[n]?):HR w A M B H' :=
 ⟨fun id m hm=>by
  obtain ⟨bx,h1,h2⟩:=hR.box id m hm;exact ⟨bx,by rw [xnU (h id.base (xpg h1) ⟨id,m,rfl,hm⟩)];exact h1,h2⟩,hR.inj,hR.lt⟩
theorem HR.append (hR:HR w A M B H) (l:List Box):HR w A M B (H++l) :=
 hR.ext fun n hn _=>zO hn
theorem HR.none_of_base (hR:HR w A M B H) {id:Id} (h:H.length<=id.base):M id=none:=by
 cases hm:M id with
 | none=>rfl
 | some m =>
  obtain ⟨bx,h1,_⟩:=hR.box id m hm;have:=xpg h1;omega
theorem HR.none_of_length (hR:HR w A M B H) {n:Nat} (h:H.length<=n):M (.b n)=none:=hR.none_of_base (id:=.b n) h
theorem HR.free_of_length (hR:HR w A M B H) {n:Nat} (h:H.length<=n):Free M n:=⟨hR.none_of_base (id:=.b n) h,fun i j=>hR.none_of_base (id:=.r n i j) h⟩
set_option maxHeartbeats 1000000 in
structure Mv (w:World) (A:Nat->Prop) (M:Id->Option MB) (w':World) (A':Nat->Prop) (M':Id->Option MB):Prop where
 size:w.heap.size<=w'.heap.size
 keep:∀ b,b<w.heap.size->¬ A b->w'.heap[b]?=w.heap[b]?
 less:∀ b,b<w.heap.size->A' b->A b
 more:∀ b,b<w.heap.size->A b->(∀ id m,M id=some m->0<m.cap->m.b≠b)->A' b
 ext:MExt M M'
 touch:Touch w w' M M'
theorem Mv.rel {w w':World} {A A':Nat->Prop} {M M':Id->Option MB} (h:Mv w A M w' A' M') {v:Value} {x:AV} (hr:Rel w A M v x):Rel w' A' M' v x :=
 hr.mono h.keep h.size h.less h.ext
theorem HR.virt {w:World} {A:Nat->Prop} {M:Id->Option MB} {B:Nat} {H:List Box} (hR:HR w A M B H) (sz:Nat) (ty:TypeId) (pm:Bool) :
  HR w A (MPut M H.length ⟨0,0,sz,0,rty ty⟩) B (H++[⟨0,sz,ty,[],false,pm⟩])/\Mv w A M w A (MPut M H.length ⟨0,0,sz,0,rty ty⟩)/\∀ a,Rel w A (MPut M H.length ⟨0,0,sz,0,rty ty⟩) (.slice a 0 0) (.osl H.length 0 0 0):=by
 have hn:Free M H.length:=hR.free_of_length (zd _);have O:MExt M (MPut M H.length ⟨0,0,sz,0,rty ty⟩):=xsg hn _;have q:∀ id m',MPut M H.length ⟨0,0,sz,0,rty ty⟩ id=some m'->0<m'.cap->M id=some m':=fun id m' hm h0=>by
  by_cases J:id=.b H.length
  . subst J;simp [MPut] at hm;subst hm;exact absurd h0 (by simp)
  . simpa [MPut,J] using hm
 refine ⟨⟨fun id m' Q=>?_,fun id id' m1 m2 h1 h2 c1 c2 he=>hR.inj id id' m1 m2 (q id m1 h1 c1) (q id' m2 h2 c2) c1 c2 he,hR.lt⟩,⟨zd _,fun _ _ _=>rfl,fun _ _ h=>h,fun _ _ h _=>h,O,⟨fun _ _ _=>rfl,fun id m' hm h0=>.inl ⟨id,m',q id m' hm h0,h0,rfl⟩⟩⟩,fun a=>?_⟩
 . by_cases J:id=.b H.length
   . subst J;have:m'=⟨0,0,sz,0,rty ty⟩:=by simp [MPut] at Q;exact Q.symm
     subst this;have hc:∀ {p:Prop},0<(0:Nat)->p:=fun h=>absurd h (by simp)
     exact ⟨⟨0,sz,ty,[],false,pm⟩,by simp [getB],rfl,rfl,rfl,zQ _,zQ _,fun x hx=>by simp at hx,hc,hc,hc,hc⟩
   . have U:M id=some m':=by simpa [MPut,J] using Q
     obtain ⟨bx,g1,g2⟩:=hR.box id m' U;exact ⟨bx,xwT g1,g2.mono (fun _=>rfl) (fun _ _ _=>rfl) (zd _) (fun _ _ h=>h) g2.guard O⟩
 . exact .osl _ H.length 0 0 0 ⟨0,0,sz,0,rty ty⟩ (by simp [MPut]) (zd _) rfl fun _=>⟨by simp,a,by simp,fun h=>by simp at h⟩
structure ARuns (P:Program) (w:World) (t tt ty e:TypeId) (i:TypeInfo) (z v:Value) (n:Nat) (news:List Value):Prop where
 nil:(n:Int)<=9223372036854775807->n*i.bytes<=281474976710656->(Builtin.append_ #[t,tt] ty #[.slice none 0 0,v]).run P w =
  .ok (.slice (some ⟨w.heap.size,0,none⟩) n (grownCap w n 0 e)) (w.drew.alloc (.cells (news.toArray++Builtin.zeroCells z.cells (grownCap w n 0 e - n)) e))
 grow:∀ (b:Addr) (sLen sCap:Nat) (olds:List Value),olds.length=sLen*i.size->(∀ j u,olds[j]?=some u->w.cell? (b.add j)=some u)->sCap<sLen+n->((sLen+n:Nat):Int)<=9223372036854775807 ->
  Builtin.nextslicecap (sLen+n) sCap*i.bytes<=281474976710656->(Builtin.append_ #[t,tt] ty #[.slice (some b) sLen sCap,v]).run P w =
   .ok (.slice (some ⟨w.heap.size,0,none⟩) (sLen+n) (grownCap w (sLen+n) sCap e))
    (w.drew.alloc (.cells (olds.toArray++news.toArray++Builtin.zeroCells z.cells (grownCap w (sLen+n) sCap e - (sLen+n))) e))
 room:∀ (g sLen sCap:Nat) (cur:Array Value),w.heap[g]?=some (.cells cur e (0,0))->sLen+n<=sCap->sLen*i.size+news.length<=cur.size ->
  (Builtin.append_ #[t,tt] ty #[.slice (some ⟨g,0,none⟩) sLen sCap,v]).run P w =
   .ok (.slice (some ⟨g,0,none⟩) (sLen+n) sCap) (w.setRow g (cur.toList.take (sLen*i.size)++news++cur.toList.drop (sLen*i.size+news.length)).toArray)
def ASrc (P:Program) (w:World) (A:Nat->Prop) (M:Id->Option MB) (t tt ty e:TypeId) (sz:Nat) (v:Value) (ys:List AV) (pm:Bool):Prop :=
 (ys=[]/\∀ b len cap,len<=cap->(Builtin.append_ #[t,tt] ty #[.slice b len cap,v]).run P w=.ok (.slice b len cap) w) \/
 (0<ys.length/\(∀ y,y∈ys->y.okElem sz=true)/\∃ news:List Value,news.length=ys.length*sz /\
  (∀ i j,i<ys.length->j<sz->Rel w A (MP M pm) (news.getD (i*sz+j) undef) ((ys.getD i .top).cells.getD j .top)) /\
  ∀ i z,P.info? e=some i->i.zero=some z->i.size=sz->ARuns P w t tt ty e i z v ys.length news)
theorem xFd (hR:HR w A M B H) {t ty e:TypeId} {sz:Nat} (J:0<sz) (hu:P.underlying t=some (.slice e)) {i0:TypeInfo} (V:P.info? e=some i0) {v:Value} {x:AV} {ys:List AV} {pm:Bool} (hx:Rel w A M v x) (h:xNm H sz x=some (ys,pm)) :
  ASrc P w A M t t ty e sz v ys pm:=by
 rcases xz0 hR hx h with ⟨he,a,cc,U⟩|⟨b,off,cc,U,W,q⟩
 . subst U;exact .inl ⟨he,fun b len cap Q=>xtk hu V b len cap Q a cc⟩
 . subst U;rcases Nat.eq_zero_or_pos ys.length with O|O
   . rw [O];exact .inl ⟨zA O,fun b' len cap Q=>xtk hu V b' len cap Q _ cc⟩
   . refine .inr ⟨O,W,xNa w b off (ys.length*sz),xir _ _ _ _,fun i j hi hj=>xKc q hi hj,fun i z hi hz hs=>⟨fun h1 h2=>?_,fun b' sLen sCap olds h1 h2 h3 h4 h5=>?_,fun g sLen sCap cur h1 h2 h3=>?_⟩⟩
     . exact run_append_nil (P:=P) w t ty e i z hu hi hz ⟨b,off,none⟩ ys.length cc _ (by rw [xir,hs]) (xyR J q) O h1 h2
     . exact run_append_grow (P:=P) w t ty e i z hu hi hz b' sLen sCap olds h1 h2 ⟨b,off,none⟩ ys.length cc _ (by rw [xir,hs]) (xyR J q) h3 h4 h5
     . exact run_append_room (P:=P) w t ty e i hu hi g sLen sCap cur h1 ⟨b,off,none⟩ ys.length cc _ (by rw [xir,hs]) (xyR J q) (xKb J q W) h2 h3
theorem xuv (w:World) (t u ty e:TypeId) (i:TypeInfo) (z:Value) (ht:P.underlying t=some (.slice e)) (hu:P.underlying u=some .string) (hi:P.info? e=some i) (hz:i.zero=some z) (s:ByteArray)
  (h0:0<s.size) (J:(s.size:Int)<=9223372036854775807) (q:s.size*i.bytes<=281474976710656) :
  (Builtin.append_ #[t,u] ty #[.slice none 0 0,.string s]).run P w =
   .ok (.slice (some ⟨w.heap.size,0,none⟩) s.size (grownCap w s.size 0 e)) (w.drew.alloc (.cells ((Lib.strCells s).toArray++Builtin.zeroCells z.cells (grownCap w s.size 0 e - s.size)) e)):=by
 have hn:s.size≠0:=by omega
 have h63':¬ (9223372036854775807<(s.size:Int)):=by omega
 have h48':¬ (281474976710656<Builtin.nextslicecap s.size 0*i.bytes):=by rw [nextslicecap_zero h0];omega
 have hf:=Lib.run_firstCells_string (P:=P) w.drew i.size s;simp [Builtin.append_,run_underlying ht,run_underlying hu,sizeOf,typeInfo,zeroValue,hi,hz,Builtin.lenOf,hn,h63',h48',Question.forced,run_firstCells_none,hf,newRow,grownCap]
theorem xtZ {t u ty e:TypeId} {i:TypeInfo} (ht:P.underlying t=some (.slice e)) (hu:P.underlying u=some .string) (hi:P.info? e=some i) (b:Option Addr) (len cap:Nat) (q:len<=cap) (s:ByteArray) (h0:s.size=0) :
  (Builtin.append_ #[t,u] ty #[.slice b len cap,.string s]).run P w=.ok (.slice b len cap) w:=by
 have hf:=Lib.run_firstCells_string (P:=P) w i.size s;rw [h0] at hf;have he:Lib.strCells s=[]:=zA (by rw [Lib.strCells_length,h0])
 rw [he] at hf;cases b<;>simp [Builtin.append_,run_underlying ht,run_underlying hu,sizeOf,typeInfo,hi,Builtin.lenOf,h0,q,hf,storeCells]
theorem xH5 {t tt ty e:TypeId} (hu:P.underlying t=some (.slice e)) (J:P.underlying tt=some .string) {i0:TypeInfo} (O:P.info? e=some i0) (s:ByteArray) :
  ASrc P w A M t tt ty e 1 (.string s) (s.data.toList.map fun (u:UInt8)=>.int .u8 u.toNat) true:=by
 have hsz:(s.data.toList.map fun (u:UInt8)=>AV.int .u8 u.toNat).length=s.size:=by rw [za,Array.length_toList];rfl
 rcases Nat.eq_zero_or_pos s.size with q|q
 . exact .inl ⟨zA (by rw [hsz,q]),fun b len cap Q=>xtZ hu J O b len cap Q s q⟩
 . refine .inr ⟨by rw [hsz];exact q,fun y hy=>?_,Lib.strCells s,by rw [Lib.strCells_length,hsz,Nat.mul_one],fun i j hi hj=>?_,fun i z hi hz hs=>⟨fun h1 h2=>?_,fun b' sLen sCap olds h1 h2 h3 h4 h5=>?_,fun g sLen sCap cur h1 h2 h3=>?_⟩⟩
   . obtain ⟨u,_,rfl⟩:=zK.1 hy;rfl
   . have U:j=0:=by omega
     subst U;rw [hsz] at hi;have hi':i<s.data.toList.length:=by rw [Array.length_toList];exact hi
     simp only [Nat.mul_one,Nat.add_zero,z7,List.getElem?_map,ze hi',Option.map_some,zh];have hc:(Lib.strCells s)[i]?=some (.int .u8 (s.data.toList[i].toNat:Int)):=by
      simp [Lib.strCells,List.getElem?_map,ze hi']
     rw [hc];exact .int _ _
   . rw [hsz] at h1 h2 |-;exact xuv w t tt ty e i z hu J hi hz s q h1 h2
   . rw [hsz] at h3 h4 h5 |-;exact Lib.run_append_grow_string (P:=P) w t tt ty e i z hu J hi hz b' sLen sCap olds h1 h2 s h3 h4 h5
   . rw [hsz] at h2 |-;rw [hs,Nat.mul_one,Lib.strCells_length] at h3 |-;exact Lib.run_append_room_string (P:=P) w t tt ty e i hu J hi hs g sLen sCap cur h1 s h2 h3
theorem xr4 (hR:HR w A M B H) {t tt ty e:TypeId} {te:TI} (W:xML P e=some te) (J:0<te.sz) (hu:P.underlying t=some (.slice e)) {i0:TypeInfo} (O:P.info? e=some i0) {v:Value} {x:AV} {ys:List AV} {pm:Bool} (hx:Rel w A M v x) (h:absSrc P H t tt e te.sz x=some (ys,pm)) :
  ASrc P w A M t tt ty e te.sz v ys pm:=by
 unfold absSrc at h;split at h
 . rename_i V;subst V;exact xFd hR J hu O hx h
 . split at h
   case h_2=>simp at h
   rename_i tj aa s U q;split at h
   case h_2=>simp at h
   rename_i Q Z;split at h
   case isFalse=>simp at h
   rename_i hsz;rw [W] at q;obtain rfl:=(z6 _ _).mp q;simp only [z6,zb] at h;obtain ⟨rfl,rfl⟩:=h;have Y:P.underlying tt=some .string:=by rw [xlF U,Q]
   cases hx with
   | str s =>
    rw [hsz];exact xH5 hu Y O s
theorem xDH (hR:HR w A M B H) (hB:B<=w.heap.size) {o:Oper} {ρc:Operand->Value} {c:Call} {t tt e:TypeId} {te:TI} {os ox:Operand} {xs r:AV} {ys:List AV} {pm:Bool} {H':List Box} (ho:o.op=.call c) (bv:c.callee=.builtin .append)
  (cf:c.argTypes.toList=[t,tt]) (ce:c.args.toList=[os,ox]) (hs:Rel w A M (ρc os) xs) (b5:xML P e=some te) (hu:P.underlying t=some (.slice e))
  (ai:∀ v,v=ρc ox->ASrc P w A M t tt o.type e te.sz v ys pm) (h:absApp H e te xs ys pm=some (r,H')) :
  Writes P o ρc w A M B r H':=by
 unfold absApp at h;obtain ⟨i,z,aw,ck,a3,ag,a6,bj,_⟩:=xaW b5;have ae:isC e=false:=xmi b5;have hts':c.argTypes=#[t,tt]:=by apply Array.ext';simpa using cf
 have has':c.args=#[os,ox]:=by apply Array.ext';simpa using ce
 have W:∀ v w',(Builtin.append_ #[t,tt] o.type #[ρc os,ρc ox]).run P w=.ok v w'->(execOp ρc o).run P w=.ok (.value v) w':=by
  intro v w' hv;simp [execOp,ho,resolve,bv,hts',has',invoke,builtin,hv,Go.resolve]
 replace ai:=ai _ rfl
 split at h
 ·
  have ab:ρc os=.slice none 0 0:=by
   generalize ρc os=v at hs;cases hs;rfl
  rw [ab] at W;split at h
  case isFalse=>simp at h
  rename_i bn;obtain ⟨bq,a9,bc,Z⟩:=bn;simp only [z6,zb] at h;obtain ⟨rfl,rfl⟩:=h;rcases ai with ⟨rfl,ay⟩|⟨bt,ac,news,U,aq,Q⟩
  . obtain ⟨g1,g2,g3⟩:=hR.virt te.sz e pm;exact ⟨_,w,A,_,.slice none 0 0,W _ _ (ay none 0 0 (zd _)),.inl rfl,Below.refl _ _,g2.ext,fun _ _=>Iff.rfl,fun _ _ _=>rfl,g2.touch,g1,g3 none⟩
  have cl:ys.length<=4611686018427387904:=bc;have ax:Rel w A M z te.zero:=by rw [bj];exact xcN w A M z
  obtain ⟨b4,_⟩:=ax.cells (xaE Z);have b8:=xan Z;have q:=(Q i z aw a3 ag.symm).nil (by omega) (by rw [<-a6];omega)
  have ad:=grownCap_ge w ys.length 0 e;have af:=grownCap_le_maxLen w ys.length 0 e (by unfold maxLen;omega)
  generalize hcap:grownCap w ys.length 0 e=cap at q ad af;have cj:H.length<(H++[(⟨0,te.sz,e,ys,false,pm⟩:Box)]).length:=by simp
  have hR':HR w.drew A M B (H++[⟨0,te.sz,e,ys,false,pm⟩]):=hR.drew.append _;have am:(Builtin.zeroCells z.cells (cap - ys.length)).size=(cap - ys.length)*te.sz:=by rw [size_zeroCells];congr 1;omega
  have ca:=xrN (bx:=⟨0,te.sz,e,ys,false,pm⟩) (nid:=H.length) (c:=news.toArray++Builtin.zeroCells z.cells (cap - ys.length)) (cap:=cap) hR' (by simpa using hB) (hR.free_of_length (zd _)) ae (by simp) af
   (by rw [Array.size_append,List.size_toArray,U,am,<-Nat.add_mul];congr 1;omega) ad ac
   (fun i' j aa hj=>by
    have hk:i'*te.sz+j<ys.length*te.sz:=xda aa hj;have e1:(news.toArray++Builtin.zeroCells z.cells (cap - ys.length)).getD (i'*te.sz+j) undef=news.getD (i'*te.sz+j) undef:=by
     simp only [zu,Array.getElem?_append,List.size_toArray,U,hk,if_true,List.getElem?_toArray,z7]
    rw [e1];exact (aq _ _ aa hj).grow ⟨rfl,rfl,rfl,zd _,fun _ _=>rfl⟩)
  obtain ⟨s1,s2,s3,s4,s5⟩:=ca;have J:Below w.heap.size w (w.drew.alloc (.cells (news.toArray++Builtin.zeroCells z.cells (cap - ys.length)) e)):=((Below.refl _ _).drew).alloc (by simp) _
  exact ⟨_,_,_,_,_,W _ _ q,.inl rfl,J.mono hB,s1,s2,fun b hb _=>J.block b hb,.of_new J (fun id m' an=>by
   by_cases b0:id=.b H.length
   . subst b0;exact s3.2 m' an
   . rw [s3.1 id b0] at an;exact .inl an),s4,.osl _ H.length 0 0 ys.length _ s5 (zd _) rfl fun _=>⟨by simpa using ad,some ⟨w.heap.size,0,none⟩,by simp,fun _=>by simp⟩⟩
 . rename_i id ver off len;split at h
   case h_2=>simp at h
   rename_i bx b3;split at h
   case isFalse=>simp at h
   rename_i bn;obtain ⟨rfl,ah,bw,hsz,b6,bq,a9,bc,Z⟩:=bn;simp only [z6,zb] at h;obtain ⟨rfl,rfl⟩:=h;have ao:isC bx.ty=false:=by rw [b6];exact ae
   obtain ⟨m,a,hm,V,bb,ab,ha⟩:=xjy hR hs b3;obtain ⟨a4,ch⟩:=xaw b3;simp only [Nat.sub_zero,zH] at ab bb;have al:m.sz=te.sz:=by rw [<-V.sz,hsz]
   have bf:m.ty=e:=by rw [<-V.ty,xaH ao,b6]
   have bh:m.ver=ver:=by rw [<-V.ver,ch]
   have ci:len+ys.length<=4611686018427387904:=bc;have az:∀ (c1:Array Value) (cap:Nat),c1.size=cap*te.sz->len+ys.length<=cap->cap<=maxLen->(∀ y,y∈ys->y.okElem te.sz=true) ->
     (∀ i j,i<(bx.xs++ys).length->j<te.sz->Rel w A (MP M (bx.pm&&pm)) (c1.getD (i*te.sz+j) undef) (((bx.xs++ys).getD i .top).cells.getD j .top)) ->
     (Builtin.append_ #[t,tt] o.type #[ρc os,ρc ox]).run P w=.ok (.slice (some ⟨w.heap.size,0,none⟩) (len+ys.length) cap) (w.drew.alloc (.cells c1 e)) ->
     Writes P o ρc w A M B (.osl id (ver+1) 0 (len+ys.length)) (H.set id ⟨ver+1,te.sz,e,bx.xs++ys,false,bx.pm&&pm⟩):=by
    intro c1 cap a2 ad af ac bp q;have J:Below w.heap.size w (w.drew.alloc (.cells c1 e)):=((Below.refl _ _).drew).alloc (by simp) _
    let m1:MB:=⟨w.heap.size,ver+1,te.sz,cap,e⟩;have a0:MExt M (MSet M id m1):=xpj hm (.inr (by simp [m1,bh]))
    have hA:∀ b,b<w.heap.size->(APut A w.heap.size false b->A b):=fun b hb h=>by
     rcases h with h|⟨h,_⟩
     . exact h
     . omega
    have a7:∀ u x,Rel w A (MP M (bx.pm&&pm)) u x->Rel (w.drew.alloc (.cells c1 e)) (APut A w.heap.size false) (MP (MSet M id m1) (bx.pm&&pm)) u x:=fun u x hr=>hr.mono (fun b hb _=>J.block b hb) J.size hA (xwy a0 _)
    refine ⟨_,_,APut A w.heap.size false,MSet M id m1,_,W _ _ q,.inl rfl,J.mono hB,a0,fun b hb=>⟨hA b hb,.inl⟩,fun b hb _=>J.block b hb,.of_new J (fun i m' an=>?_),⟨?_,?_,?_⟩,.osl _ id (ver+1) 0 (len+ys.length) m1 (by simp [MSet]) (zd _) rfl fun _=>⟨by simpa [m1] using ad,some ⟨w.heap.size,0,none⟩,by simp [m1],fun _=>by simp [m1]⟩⟩
    . by_cases au:i=id
      . subst au;have:m'=m1:=by simp [MSet] at an;exact an.symm
        subst this;exact .inr (zd _)
      . exact .inl (by simpa [MSet,au] using an)
    . intro i' m2 ak;by_cases au:i'=id
      . subst au;have:m2=m1:=by simp [MSet] at ak;exact ak.symm
        subst this;refine ⟨_,by rw [xaT,zL (xbO a4)],⟨rfl,rfl,xaH ae,af,by simp [m1];omega,xvl (fun x hx=>by have:=V.ok x hx;rwa [al] at this) ac,fun _=>by simpa [m1] using hB,fun _=>by simp [m1],fun _=>⟨c1,.of (xas ae) (by simpa [m1] using heap_alloc_new w.drew (.cells c1 e)),by simpa [m1] using a2,?_⟩,fun _=>⟨fun _=>.inr ⟨rfl,rfl⟩,fun _=>rfl⟩⟩⟩
        intro i j hi hj;rw [xal ae,xaF ae];exact a7 _ _ (bp i j hi hj)
      . have ar:M i'=some m2:=by simpa [MSet,au] using ak
        obtain ⟨bk,g1,g2⟩:=hR.box i' m2 ar;exact ⟨bk,by rw [xbT a4 ao ae au];exact g1,g2.mono (fun h0=>J.block _ (g2.lt h0)) (fun b hb _=>J.block b hb) J.size hA (fun h0=>⟨fun hf=>.inl ((g2.guard h0).1 hf),fun hf=>(g2.guard h0).2 (hA _ (g2.lt h0) hf)⟩) a0⟩
    . intro i' a8 m2 m3 ak ar b2 b9 he;by_cases aa:i'=id<;>by_cases ap:a8=id
      . rw [aa,ap]
      . exfalso;have g1:m2=m1:=by simp [MSet,aa] at ak;exact ak.symm
        have g2:M a8=some m3:=by simpa [MSet,ap] using ar
        obtain ⟨bk,_,g3⟩:=hR.box a8 m3 g2;have:=g3.lt b9;rw [<-he,g1] at this;simp [m1] at this
      . exfalso;have g1:m3=m1:=by simp [MSet,ap] at ar;exact ar.symm
        have g2:M i'=some m2:=by simpa [MSet,aa] using ak
        obtain ⟨bk,_,g3⟩:=hR.box i' m2 g2;have:=g3.lt b2;rw [he,g1] at this;simp [m1] at this
      . exact hR.inj i' a8 m2 m3 (by simpa [MSet,aa] using ak) (by simpa [MSet,ap] using ar) b2 b9 he
    . intro b hb;rcases hb with hb|⟨rfl,_⟩
      . have:=hR.lt b hb;simp;omega
      . simp
   rcases Nat.eq_zero_or_pos m.cap with O|O
   ·
    have bu:bx.xs=[]:=zA (by omega)
    have cc:len=0:=by omega
    subst cc;rw [O] at ab;rcases ai with ⟨rfl,ay⟩|⟨bt,ac,news,U,aq,Q⟩
    . obtain ⟨g1,g2,g3⟩:=xGS (m':=⟨m.b,ver+1,m.sz,m.cap,m.ty⟩) (bx':=⟨ver+1,te.sz,e,bx.xs++[],false,bx.pm&&pm⟩) hR O hm a4 ao ae rfl rfl (.inr (by simp [bh])) rfl al.symm bf.symm (by simp [bu])
      exact ⟨_,_,A,_,_,W _ _ (by rw [ab];simpa using ay a 0 0 (zd _)),.inl rfl,Below.refl _ _,g2,fun _ _=>Iff.rfl,fun _ _ _=>rfl,g3,g1,.osl _ id (ver+1) 0 0 ⟨m.b,ver+1,m.sz,m.cap,m.ty⟩ (by simp [MSet]) (zd _) rfl fun _=>⟨by simp,a,by simp [O],fun h=>by simp at h;omega⟩⟩
    . have ax:Rel w A M z te.zero:=by rw [bj];exact xcN w A M z
      obtain ⟨b4,_⟩:=ax.cells (xaE Z);have b8:=xan Z;have ad:=grownCap_ge w (0+ys.length) 0 e;have af:=grownCap_le_maxLen w (0+ys.length) 0 e (by unfold maxLen;omega)
      have am:(Builtin.zeroCells z.cells (grownCap w (0+ys.length) 0 e - ys.length)).size=(grownCap w (0+ys.length) 0 e - ys.length)*te.sz:=by rw [size_zeroCells];congr 1;omega
      refine az (news.toArray++Builtin.zeroCells z.cells (grownCap w (0+ys.length) 0 e - ys.length)) (grownCap w (0+ys.length) 0 e) (by rw [Array.size_append,List.size_toArray,U,am,<-Nat.add_mul];congr 1;omega) ad af ac (fun i' j aa hj=>?_) ?_
      . rw [bu,zU] at aa |-;have hk:i'*te.sz+j<ys.length*te.sz:=xda aa hj;have e1:(news.toArray++Builtin.zeroCells z.cells (grownCap w (0+ys.length) 0 e - ys.length)).getD (i'*te.sz+j) undef=news.getD (i'*te.sz+j) undef:=by
         simp only [zu,Array.getElem?_append,List.size_toArray,U,hk,if_true,List.getElem?_toArray,z7]
        rw [e1];exact (aq _ _ aa hj).mp_and'
      . rw [ab];cases a with
        | none =>
         have q:=(Q i z aw a3 ag.symm).nil (by omega) (by rw [<-a6];simp at a9;omega)
         simpa using q
        | some a =>
         have q:=(Q i z aw a3 ag.symm).grow a 0 0 [] (by simp) (by simp) (by omega) (by omega) (growslice_fits (by omega) (by rw [<-a6];exact a9))
         simpa using q
   have cb:=ha O;subst cb;simp only [Nat.zero_mul] at ab;obtain ⟨c0,h1,h2,h3⟩:=V.cells O
   replace h1:=h1.plain (V.nomap (xas ao))
   replace h3:∀ i j,i<bx.xs.length->j<m.sz->Rel w A (MP M bx.pm) (c0.getD (i*m.sz+j) undef) ((bx.xs.getD i .top).cells.getD j .top):=fun i j hi hj=>by
    have:=h3 i j hi hj;rw [xal ao,xaF ao] at this;exact this
   have cm:A m.b:=(V.guard O).1 bw;rw [al] at h2 h3;rw [bf] at h1;have aj:∀ (news:List Value),news.length=ys.length*te.sz->(∀ y,y∈ys->y.okElem te.sz=true)->len+ys.length<=m.cap ->
     (∀ i j,i<ys.length->j<te.sz->Rel w A (MP M pm) (news.getD (i*te.sz+j) undef) ((ys.getD i .top).cells.getD j .top)) ->
     (Builtin.append_ #[t,tt] o.type #[ρc os,ρc ox]).run P w=.ok (.slice (some ⟨m.b,0,none⟩) (len+ys.length) m.cap) (w.setRow m.b (xND c0.toList (len*te.sz) news).toArray) ->
     Writes P o ρc w A M B (.osl id (ver+1) 0 (len+ys.length)) (H.set id ⟨ver+1,te.sz,e,bx.xs++ys,false,bx.pm&&pm⟩):=by
    intro news U ac Y b1 q;have a1:len*te.sz+news.length<=c0.toList.length:=by
     have cg:c0.toList.length=m.cap*te.sz:=by simpa using h2
     rw [U,<-Nat.add_mul,cg];exact Nat.mul_le_mul_right _ Y
    obtain ⟨g1,g2,g3,g4,gt,g5⟩:=xo2 (m':=⟨m.b,ver+1,m.sz,m.cap,m.ty⟩) (bx':=⟨ver+1,te.sz,e,bx.xs++ys,false,bx.pm&&pm⟩) hR O hm a4 V ao ae bw (c':=(xND c0.toList (len*te.sz) news).toArray) rfl rfl rfl rfl (.inr (by simp [bh]))
     rfl al.symm bf.symm rfl (by simp;omega) (by rw [al];exact xvl (fun x hx=>by rw [<-al];exact V.ok x hx) ac)
     (by have:=xjF a1;simp at this |-;rw [this,h2,al])
     (by
      rw [al];intro i j hi hj;rw [xeO];refine xyZ (M:=MP M (bx.pm&&pm)) (c:=c0.toList) U (fun i j hi hj=>by rw [xbV];exact (h3 i j hi hj).mp_and) (fun i j hi hj=>(b1 i j hi hj).mp_and') (fun k hk=>?_) (fun k hk=>?_) i j hi hj
      . rw [xhs a1,if_neg (by rw [ah];omega)]
      . rw [xhs a1,if_pos (by rw [ah,U];omega),<-ah,show len*te.sz+k - len*te.sz=k by omega])
    exact ⟨_,_,A,_,_,W _ _ q,.inl rfl,g4,g2,fun _ _=>Iff.rfl,g3,gt,g1,.osl _ id (ver+1) 0 (len+ys.length) ⟨m.b,ver+1,m.sz,m.cap,m.ty⟩ (by simp [MSet]) (zd _) rfl fun _=>⟨by simpa using Y,some ⟨m.b,0,none⟩,by simp,fun _=>by simp⟩⟩
   have bg:len<=m.cap:=bb;rcases ai with ⟨rfl,ay⟩|⟨bt,ac,news,U,aq,Q⟩
   . refine aj [] (by simp) (by simp) (by simpa using bg) (by simp) ?_
     have cd:(xND c0.toList (len*te.sz) []).toArray=c0:=by simp [xND]
     have bm:w.setRow m.b c0=w:=setRow_self w m.b c0 e (0,0) h1;rw [cd,bm,ab];simpa using ay (some ⟨m.b,0,none⟩) len m.cap bg
   . by_cases Y:len+ys.length<=m.cap
     . refine aj news (U) ac Y (fun i j hi hj=>aq _ _ hi hj) ?_
       have bi:len*i.size+news.length<=c0.size:=by
        rw [U,<-ag,<-Nat.add_mul,h2];exact Nat.mul_le_mul_right _ Y
       have:=(Q i z aw a3 ag.symm).room m.b len m.cap c0 h1 Y bi;rw [ab,this];rw [<-ag];rfl
     . have bo:∀ j u,(c0.toList.take (len*te.sz))[j]?=some u->w.cell? ((⟨m.b,0,none⟩:Addr).add j)=some u:=by
        intro j u ba;rw [List.getElem?_take] at ba;split at ba
        . rw [xf0,zH];simp [World.cell?,h1];simpa using ba
        . simp at ba
       have a5:(c0.toList.take (len*te.sz)).length=len*te.sz:=by
        simp only [zt,Array.length_toList,h2];have:len*te.sz<=m.cap*te.sz:=Nat.mul_le_mul_right _ bg;omega
       have q:=(Q i z aw a3 ag.symm).grow ⟨m.b,0,none⟩ len m.cap (c0.toList.take (len*te.sz)) (by rw [a5,ag]) bo (by omega) (by omega) (growslice_fits (by omega) (by rw [<-a6];exact a9))
       have ad:=grownCap_ge w (len+ys.length) m.cap e;have af:=grownCap_le_maxLen w (len+ys.length) m.cap e (by unfold maxLen;omega)
       generalize hcap:grownCap w (len+ys.length) m.cap e=cap at q ad af;have ax:Rel w A M z te.zero:=by rw [bj];exact xcN w A M z
       obtain ⟨b4,_⟩:=ax.cells (xaE Z);have b8:=xan Z;have am:(Builtin.zeroCells z.cells (cap - (len+ys.length))).size=(cap - (len+ys.length))*te.sz:=by rw [size_zeroCells];congr 1;omega
       generalize be:(c0.toList.take (len*te.sz)).toArray++news.toArray++Builtin.zeroCells z.cells (cap - (len+ys.length))=c1 at q;have a2:c1.size=cap*te.sz:=by
        rw [<-be];simp only [Array.size_append,List.size_toArray,a5,U,am,<-Nat.add_mul];congr 1;omega
       have bz:∀ k,k<bx.xs.length*te.sz->c1.toList.getD k undef=c0.toList.getD k undef:=by
        intro k hk;rw [<-ah] at hk;rw [<-be];simp only [Array.toList_append,zw,z7,zP,a5,hk,if_true,List.getElem?_take]
       have b7:∀ k,k<ys.length*te.sz->c1.toList.getD (bx.xs.length*te.sz+k) undef=news.getD k undef:=by
        intro k hk;rw [<-ah,<-be];simp only [Array.toList_append,zw,z7,zP,a5,show ¬ len*te.sz+k<len*te.sz by omega,if_false,U,show len*te.sz+k - len*te.sz=k by omega,hk,if_true]
       refine az c1 cap a2 ad af ac (fun i j hi hj=>?_) (by rw [ab];exact q)
       rw [<-xbV];exact xyZ (M:=MP M (bx.pm&&pm)) (c:=c0.toList) (U) (fun i j hi hj=>by rw [xbV];exact (h3 i j hi hj).mp_and) (fun i j hi hj=>(aq _ _ hi hj).mp_and') bz b7 i j hi hj
 . simp at h
theorem xvN (hR:HR w A M B H) (hB:B<=w.heap.size) {o:Oper} {ρc:Operand->Value} {c:Call} {t tt:TypeId} {os ox:Operand} {xs xx r:AV} {H':List Box} (ho:o.op=.call c) (O:c.callee=.builtin .append)
  (Q:c.argTypes.toList=[t,tt]) (U:c.args.toList=[os,ox]) (hs:Rel w A M (ρc os) xs) (hx:Rel w A M (ρc ox) xx) (h:xNP P H t tt xs xx=some (r,H')) :
  Writes P o ρc w A M B r H':=by
 unfold xNP at h;split at h
 case h_2=>simp at h
 rename_i ti Y;split at h
 case h_2=>simp at h
 rename_i e hd;split at h
 case h_2=>simp at h
 rename_i te q;split at h
 case h_2=>simp at h
 rename_i ys pm V;have hu:P.underlying t=some (.slice e):=by rw [xlF Y,hd]
 have J:0<te.sz:=by
  unfold absApp at h;split at h
  . split at h
    case isFalse=>simp at h
    rename_i hc;exact hc.1
  . split at h
    case h_2=>simp at h
    split at h
    case isFalse=>simp at h
    rename_i hc;exact hc.2.2.2.2.2.1
  . simp at h
 obtain ⟨i,z,W,_⟩:=xaW q;exact xDH hR hB ho O Q U hs q hu (fun v hv=>by subst hv;exact xr4 hR q J hu W hx V) h
theorem xuA {z:Array Value} {n k:Nat} (hk:k<n*z.size) (hz:0<z.size):(Builtin.zeroCells z n).getD k undef=z.getD (k % z.size) undef:=by
 have hm:k % z.size<z.size:=Nat.mod_lt _ hz;simp [Builtin.zeroCells,zu,hk,hm]
theorem xDK (hR:HR w A M B H) {o:Oper} {ρc:Operand->Value} {c:Call} {t:TypeId} {ox:Operand} {xx:AV} {H':List Box} (ho:o.op=.call c) (ag:c.callee=.builtin .clear)
  (ax:c.argTypes.toList=[t]) (aw:c.args.toList=[ox]) (hx:Rel w A M (ρc ox) xx) (h:absClear P H t xx=some H'):Writes P o ρc w A M B (.tuple []) H':=by
 unfold absClear at h;split at h
 case h_2=>simp at h
 rename_i ti a2;split at h
 case h_2=>simp at h
 rename_i e hd;split at h
 case h_2=>simp at h
 rename_i te a1;split at h
 case h_2=>simp at h
 rename_i id ver off len;split at h
 case h_2=>simp at h
 rename_i bx ak;split at h
 case isFalse=>simp at h
 rename_i a3;obtain ⟨aq,hsz,a7,J,bb,U⟩:=a3;cases h;have hu:P.underlying t=some (.slice e):=by rw [xlF a2,hd]
 obtain ⟨i,z,ap,bc,a5,a9,ba,am,_⟩:=xaW a1;have hts':c.argTypes=#[t]:=by apply Array.ext';simpa using ax
 have has':c.args=#[ox]:=by apply Array.ext';simpa using aw
 have V:∀ v w',(Builtin.clear_ #[t] o.type #[ρc ox]).run P w=.ok v w'->(execOp ρc o).run P w=.ok (.value v) w':=by
  intro v w' hv;simp [execOp,ho,resolve,ag,hts',has',invoke,builtin,hv,Go.resolve]
 obtain ⟨m,a,hm,q,a8,ai,ha⟩:=xjy hR hx ak;obtain ⟨Q,a6⟩:=xaw ak;have ae:m.sz=te.sz:=by rw [<-q.sz,hsz]
 rcases Nat.eq_zero_or_pos len with rfl|a4
 . have he:(⟨ver,bx.sz,bx.ty,bx.xs.take off++(List.replicate 0 te.zero++bx.xs.drop (off+0)),false,bx.pm⟩:Box)=bx:=by
    cases bx;simp_all
   have Q:H[id]?=some bx:=Q;have ah:H.set id bx=H:=by
    apply List.ext_getElem?;intro k;by_cases hk:id=k
    . subst hk;rw [Q,zL];rcases zJ id H.length with h'|h'
      . exact h'
      . rw [zz h'] at Q;simp at Q
    . rw [zX hk]
   rw [he,ah];have W:(Builtin.clear_ #[t] o.type #[ρc ox]).run P w=.ok (.tuple #[]) w:=by
    rw [ai];cases a<;>simp [Builtin.clear_,run_underlying hu]
   exact ⟨_,w,A,M,.tuple #[],V _ _ W,.inl rfl,Below.refl _ _,MExt.refl _,fun _ _=>Iff.rfl,fun _ _ _=>rfl,Touch.of_new (Below.refl _ _) (fun id m hm=>.inl hm),hR,.tuple #[] [] rfl (by simp)⟩
 . have an:off<m.cap:=by have:=q.fits;omega
   have Y:0<m.cap:=by omega
   have ao:=ha an;subst ao;obtain ⟨cc,h1,h2,h3⟩:=q.cells Y
   replace h1:=h1.plain (q.nomap (xas U))
   replace h3:∀ i j,i<bx.xs.length->j<m.sz->Rel w A (MP M bx.pm) (cc.getD (i*m.sz+j) undef) ((bx.xs.getD i .top).cells.getD j .top):=fun i j hi hj=>by
    have:=h3 i j hi hj;rw [xal U,xaF U] at this;exact this
   have hty':bx.ty=m.ty:=by rw [<-q.ty,xaH U]
   have ay:Rel w A M z te.zero:=by rw [am];exact xcN w A M z
   obtain ⟨az,au⟩:=ay.cells (xaE J);have be:=xan J;have aa:z.cells.size=m.sz:=by omega
   have ab:(Builtin.zeroCells z.cells len).toList.length=len*m.sz:=by simp [size_zeroCells,aa]
   have O:off*m.sz+(Builtin.zeroCells z.cells len).toList.length<=cc.toList.length:=by
    rw [ab,<-Nat.add_mul,Array.length_toList,h2];exact Nat.mul_le_mul_right _ (by have:=q.fits;omega)
   have aj:∀ u,u∈(Builtin.zeroCells z.cells len).toList->u.oneCell'=true:=fun u hu=>by
    obtain ⟨k,hk,rfl⟩:=zp.1 hu;rw [ab] at hk;have al:0<z.cells.size:=by
     rcases Nat.eq_zero_or_pos z.cells.size with h0|h0
     . rw [<-aa,h0] at hk;simp at hk
     . exact h0
    have hg:=xuA (z:=z.cells) (n:=len) (k:=k) (by rw [aa];exact hk) al
    have e1:(Builtin.zeroCells z.cells len).toList[k]'(by rw [ab];exact hk)=z.cells.getD (k % z.cells.size) undef:=by
     rw [<-hg];simp [zu,size_zeroCells,aa,hk]
    rw [e1];have ac:k % z.cells.size<te.zero.cells.length:=by rw [<-az];exact Nat.mod_lt _ al
    refine (au _ ac).oneCell ?_;have:=xaE J;rw [zI] at this;exact this _ (xau ac)
   have af:=run_storeCells_at P m.b (off*m.sz) m.ty (Builtin.zeroCells z.cells len).toList 0 cc w h1 (by simpa using O) aj
   simp only [Nat.add_zero] at af;have ad:(bx.xs.take off).length=off:=by simp;omega
   obtain ⟨g1,g2,g3,g4,gt,g5⟩:=xo2 (m':=m) (bx':=⟨ver,bx.sz,bx.ty,bx.xs.take off++(List.replicate len te.zero++bx.xs.drop (off+len)),false,bx.pm⟩) hR Y hm Q q U U aq (c':=(xND cc.toList (off*m.sz) (Builtin.zeroCells z.cells len).toList).toArray) rfl rfl rfl rfl (.inl rfl)
    (by rw [<-q.ver,<-a6]) q.sz hty' rfl (by have:=q.fits;simp;omega)
    (fun x hx=>by
     rcases zG.1 hx with hx|hx
     . exact q.ok x (List.mem_of_mem_take hx)
     . rcases zG.1 hx with hx|hx
       . rw [(List.mem_replicate.1 hx).2,ae];exact J
       . exact q.ok x (List.mem_of_mem_drop hx))
    (by have:=xjF O;simp at this |-;omega)
    (fun i' j' a0 Z=>by
     have hi'':i'<bx.xs.length:=by simp at a0;omega
     rw [xeO,xhs O,ab];by_cases c1:i'<off
     . have e1:(bx.xs.take off++(List.replicate len te.zero++bx.xs.drop (off+len))).getD i' .top=bx.xs.getD i' .top:=by
        simp [z7,zP,ad,c1,List.getElem?_take,hi'']
       have:i'*m.sz+j'<off*m.sz:=xda c1 Z;rw [if_neg (by omega),xbV,e1]
       exact h3 i' j' hi'' Z
     . by_cases c2:i'<off+len
       . have e1:(bx.xs.take off++(List.replicate len te.zero++bx.xs.drop (off+len))).getD i' .top=(List.replicate len te.zero).getD (i' - off) .top:=by
          simp [z7,zP,ad,c1,show i' - off<len by omega]
         have p1:off*m.sz<=i'*m.sz:=Nat.mul_le_mul_right _ (by omega)
         have p2:i'*m.sz+j'<(off+len)*m.sz:=xda c2 Z;rw [Nat.add_mul] at p2;rw [if_pos (by omega),e1]
         have p3:i'*m.sz+j' - off*m.sz=(i' - off)*m.sz+j':=by rw [Nat.sub_mul];omega
         rw [p3,xbV];have ar:(i' - off)*m.sz+j'<len*m.sz:=xda (by omega) Z
         have:=xro (w:=w) (A:=A) (M:=MP M bx.pm) (z:=z) (x:=te.zero) (n:=len) (sz:=te.sz) (by rw [am];exact xcN w A _ z) J (i:=i' - off) (j:=j') (by omega) (by omega) (c:=Builtin.zeroCells z.cells len) (by rw [size_zeroCells,aa,<-ae];exact ar)
          (fun k hk=>xuA (by rw [size_zeroCells] at hk;exact hk) (by omega))
         rw [ae];exact this
       . have e1:(bx.xs.take off++(List.replicate len te.zero++bx.xs.drop (off+len))).getD i' .top=bx.xs.getD i' .top:=by
          simp only [z7,zP,ad,c1,if_false,List.length_replicate,show ¬ i' - off<len by omega,List.getElem?_drop]
          congr 2;omega
         have p1:(off+len)*m.sz<=i'*m.sz:=Nat.mul_le_mul_right _ (by omega)
         rw [Nat.add_mul] at p1;rw [if_neg (by omega),xbV,e1]
         exact h3 i' j' hi'' Z)
   have W:(Builtin.clear_ #[t] o.type #[ρc ox]).run P w=.ok (.tuple #[]) (w.setRow m.b (xND cc.toList (off*m.sz) (Builtin.zeroCells z.cells len).toList).toArray):=by
    obtain ⟨n,rfl⟩:∃ n,len=n+1:=⟨len - 1,by omega⟩
    have hzr':(zeroValue e).run P w=.ok z w:=by simp [zeroValue,typeInfo,ap,a5]
    rw [ai];simp only [Builtin.clear_,List.getElem?_toArray,zY,Sem.run_bind,run_underlying hu,Result.andThen_ok,hzr',af];rfl
   exact ⟨_,_,A,_,.tuple #[],V _ _ W,.inl rfl,g4,g2,fun _ _=>Iff.rfl,g3,gt,g1,.tuple #[] [] rfl (by simp)⟩
theorem HR.rebuild (hR:HR w A M B H) {w':World} {A':Nat->Prop} {M':Id->Option MB} {H':List Box} (S:Nat->Prop)
  (hH:∀ k,¬ S k->k<H.length->H'[k]?=H[k]?) (hM:∀ j:Id,¬ S j.base->M' j=M j)
  (q:∀ (j:Id) m,¬ S j.base->M j=some m->0<m.cap->w'.heap[m.b]?=w.heap[m.b]?/\(A m.b->A' m.b))
  (hw:∀ b,b<w.heap.size->¬ A b->w'.heap[b]?=w.heap[b]?) (hs:w.heap.size<=w'.heap.size) (hA:∀ b,b<w.heap.size->A' b->A b) (Q:MExt M M')
  (O:∀ (j:Id) m,S j.base->M' j=some m->∃ bx,getB H' j=some bx/\BoxAt w' A' M' B j m bx)
  (J:∀ (j:Id) m j' m',S j.base->M' j=some m->M' j'=some m'->0<m.cap->0<m'.cap->m.b=m'.b->j=j')
  (V:∀ b,A' b->b<w'.heap.size):HR w' A' M' B H':=by
 refine ⟨fun j m hm=>?_,fun j j' m m' h1 h2 c1 c2 he=>?_,V⟩
 . by_cases hj:S j.base
   . exact O j m hj hm
   . rw [hM j hj] at hm;obtain ⟨bx,g1,g2⟩:=hR.box j m hm;refine ⟨bx,by rw [xnU (hH _ hj (xpg g1))];exact g1,g2.mono (fun h0=>(q j m hj hm h0).1) hw hs hA (fun h0=>?_) Q⟩
     rw [g2.guard h0];exact ⟨(q j m hj hm h0).2,hA _ (g2.lt h0)⟩
 . by_cases hj:S j.base
   . exact J j m j' m' hj h1 h2 c1 c2 he
   . by_cases U:S j'.base
     . exact (J j' m' j m U h2 h1 c2 c1 he.symm).symm
     . rw [hM j hj] at h1;rw [hM j' U] at h2;exact hR.inj j j' m m' h1 h2 c1 c2 he
theorem xsj {e v:AV} {j sz:Nat} (hj:j<sz) (hl:e.cells.length=sz) (hv:v.cells=[v]):(putCells e j 1 sz v).cells.length=sz/\∀ k,k<sz->(putCells e j 1 sz v).cells.getD k .top=if k=j then v else e.cells.getD k .top:=by
 unfold putCells;split
 . rename_i hw;obtain ⟨rfl,rfl⟩:=hw;refine ⟨by rw [hv];rfl,fun k hk=>?_⟩
   have:k=0:=by omega
   subst this;rw [if_pos rfl,hv];rfl
 . have J:min j e.cells.length=j:=by omega
   refine ⟨by rw [xkr,hv];simp;omega,fun k hk=>?_⟩
   simp only [xkr,hv,zw,z7,zP,zt,J];by_cases O:k<j
   . simp [O,List.getElem?_take,show ¬ k=j by omega]
   . by_cases q:k=j
     . subst q;simp
     . simp only [O,if_false,zF,List.length_nil,show ¬ (k - j<1) by omega,q,List.getElem?_drop]
       congr 2;omega
theorem xqf {e v:AV} {j sz:Nat} (hj:j<sz) (he:e.okElem sz=true) (hv:v.cells=[v]) (ho:v.one=true):(putCells e j 1 sz v).okElem sz=true:=by
 have hl:=xan he;obtain ⟨h1,h2⟩:=xsj hj hl hv;have h3:=xaE he;simp only [AV.okElem,h1,beq_self_eq_true,Bool.true_and];rw [zI] at h3 |-;intro y hy;obtain ⟨k,hk,rfl⟩:=xkS hy;rw [h1] at hk;rw [h2 k hk];split
 . exact ho
 . exact h3 _ (xau (by omega))
def xMU (bx:Box) (ver i j:Nat) (v:AV):Box:=⟨ver,bx.sz,bx.ty,bx.xs.set i (putCells (bx.xs.getD i .top) j 1 bx.sz v),bx.frz,bx.pm⟩
theorem xwj {bx:Box} {ver i j:Nat} {v:AV} (hi:i<bx.xs.length) (hj:j<bx.sz) (hl:(bx.xs.getD i .top).cells.length=bx.sz) (hv:v.cells=[v]) {i' k:Nat} (hk:k<bx.sz) :
  ((xMU bx ver i j v).xs.getD i' .top).cells.getD k .top=if i'=i/\k=j then v else (bx.xs.getD i' .top).cells.getD k .top:=by
 have hp:=xsj (e:=bx.xs.getD i .top) (v:=v) hj hl hv;unfold xMU;by_cases q:i'=i
 . subst q;have e1:(bx.xs.set i' (putCells (bx.xs.getD i' .top) j 1 bx.sz v)).getD i' .top=putCells (bx.xs.getD i' .top) j 1 bx.sz v:=by simp [z7,hi]
   rw [e1,hp.2 k hk];simp
 . have e1:(bx.xs.set i (putCells (bx.xs.getD i .top) j 1 bx.sz v)).getD i' .top=bx.xs.getD i' .top:=by simp [z7,List.getElem?_set,show ¬ i=i' from fun h=>q h.symm]
   rw [e1,if_neg (fun h=>q h.1)]
theorem HR.detach (hR:HR w A M B H) {n i j sz:Nat} {ys:List AV} {m:MB} {bx:Box} (hb:H[n]?=some bx) (aq:xMN bx.ty j=true) (hx:(bx.xs.getD i .top).cells.getD j .top=.list sz ys) (hj:j<bx.sz) (ak:(bx.xs.getD i .top).cells.length=bx.sz) (hm:M (.r n i j)=some m) :
  let M':Id->Option MB:=fun x=>if x=.b H.length then some ⟨m.b,0,m.sz,m.cap,m.ty⟩ else if x=.r n i j then some ⟨0,m.ver+1,0,0,m.ty⟩ else M x
  HR w A M' B (H.set n (xMU bx bx.ver i j (.int .i64 ys.length))++[⟨0,sz,rowTy bx.ty,ys,bx.frz,true⟩])/\Mv w A M w A M'/\∀ v,Rel w A M v (xNQ n i j (.list sz ys))->Rel w A M' v (.osl H.length 0 0 ys.length):=by
 intro M';obtain ⟨rb,g1,g2⟩:=hR.box _ m hm;have ab:isC bx.ty=true:=xfi aq;obtain ⟨g4,g5,g6,g7⟩:=xh2 hb ab g1;rw [hx] at g7;subst g7;have aj:2*ys.length=m.ver:=g2.ver;have hsz:sz=m.sz:=g2.sz;have ai:rowTy bx.ty=m.ty:=by have:=g2.ty;rw [xBk,xaH (xbB _)] at this;exact this
 have hn:n<H.length:=xbO hb;have ac:=hR.free_of_length (n:=H.length) (zd _);have ay:(Id.r n i j)≠.b H.length:=fun e=>by cases e
 have V:M' (.b H.length)=some ⟨m.b,0,m.sz,m.cap,m.ty⟩:=by simp [M']
 have Y:M' (.r n i j)=some ⟨0,m.ver+1,0,0,m.ty⟩:=by simp [M']
 have Q:∀ x:Id,x≠.b H.length->x≠.r n i j->M' x=M x:=fun x h1 h2=>by simp [M',h1,h2]
 have ag:∀ x m0,M x=some m0->x≠.b H.length:=fun x m0 h e=>by rw [e,ac.1] at h;cases h
 have O:MExt M M':=fun x m0 h=>by
  by_cases q:x=.r n i j
  . subst q;rw [hm] at h;cases h;exact ⟨_,Y,.inr (Nat.lt_succ_self _)⟩
  . exact ⟨m0,by rw [Q x (ag x m0 h) q];exact h,.inl rfl⟩
 have W:∀ x m',M' x=some m'->0<m'.cap->∃ y m0,M y=some m0/\m0.b=m'.b/\m0.cap=m'.cap/\(x=.b H.length/\y=.r n i j\/x=y/\y≠.r n i j):=fun x m' h h0=>by
  by_cases h1:x=.b H.length
  . subst h1;rw [V] at h;cases h;exact ⟨_,m,hm,rfl,rfl,.inl ⟨rfl,rfl⟩⟩
  . by_cases h2:x=.r n i j
    . subst h2;rw [Y] at h;cases h;exact absurd h0 (by simp)
    . rw [Q x h1 h2] at h;exact ⟨x,m',h,rfl,rfl,.inr ⟨rfl,h2⟩⟩
 have ah:∀ (x:Id) m1 x' m2,M' x=some m1->M' x'=some m2->0<m1.cap->0<m2.cap->m1.b=m2.b->x=x':=fun x m1 x' m2 h1 h2 c1 c2 he=>by
  obtain ⟨y,n1,a1,a2,a3,a4⟩:=W x m1 h1 c1;obtain ⟨y',n2,b1,b2,b3,b4⟩:=W x' m2 h2 c2;have:=hR.inj y y' n1 n2 a1 b1 (by omega) (by omega) (by rw [a2,b2,he])
  subst this;rcases a4 with ⟨rfl,e1⟩|⟨rfl,e1⟩<;>rcases b4 with ⟨rfl,e2⟩|⟨rfl,e2⟩
  . rfl
  . exact absurd e1 e2
  . exact absurd e2 e1
  . rfl
 have aw:∀ {v:Value} {x:AV},Rel w A M v x->Rel w A M' v x:=fun h=>h.mono (fun _ _ _=>rfl) (zd _) (fun _ _ h=>h) O
 have ae:(H.set n (xMU bx bx.ver i j (.int .i64 ys.length))++[⟨0,sz,rowTy bx.ty,ys,bx.frz,true⟩])[n]?=some (xMU bx bx.ver i j (.int .i64 ys.length)):=by
  rw [zO (by simpa using hn),zL hn]
 have J:(xMU bx bx.ver i j (.int .i64 ys.length)).xs.length=bx.xs.length:=by simp [xMU]
 have U:∀ i' k,k<bx.sz->((xMU bx bx.ver i j (.int .i64 ys.length)).xs.getD i' .top).cells.getD k .top=if i'=i/\k=j then .int .i64 ys.length else (bx.xs.getD i' .top).cells.getD k .top:=fun i' k hk=>xwj g6 hj ak rfl hk
 have af:∀ k,xMN bx.ty k=true->k=j:=fun k hk=>by
  have hc:=xfi hk;unfold xMN at hk g4;rw [hc] at hk g4;rw [zg hk,zg g4]
 refine ⟨hR.rebuild (fun k=>k=n\/k=H.length) (fun k hk an=>?_) (fun x q=>Q x (fun e=>q (.inr (by rw [e];rfl))) fun e=>q (.inl (by rw [e];rfl))) (fun _ _ _ _ _=>⟨rfl,fun h=>h⟩) (fun _ _ _=>rfl) (zd _) (fun _ _ h=>h) O (fun x m' hS q=>?_) (fun x m1 x' m2 _ h1 h2 c1 c2 he=>ah x m1 x' m2 h1 h2 c1 c2 he) hR.lt,
  ⟨zd _,fun _ _ _=>rfl,fun _ _ h=>h,fun _ _ h _=>h,O,⟨fun _ _ _=>rfl,fun x m' h h0=>?_⟩⟩,fun v hv=>?_⟩
 . rw [zO (by simpa using an),zX (fun e=>hk (.inl e.symm))]
 . by_cases h1:x=.b H.length
   ·
    subst h1;rw [V] at q;cases q;have ad:isC (rowTy bx.ty)=false:=xbB _;refine ⟨⟨0,sz,rowTy bx.ty,ys,bx.frz,true⟩,by rw [xaT,List.getElem?_append_right (by simp)];simp,rfl,hsz,by rw [xaH ad];exact ai,g2.capm,g2.fits,g2.ok,g2.low,g2.lt,fun h0=>?_,fun h0=>g2.guard h0⟩
    obtain ⟨c,c1,c2,c3⟩:=g2.cells h0;refine ⟨c,c1,c2,fun i' j' aa am=>?_⟩
    have h4:=c3 i' j' aa am;rw [xal (t:=(xNc bx (.list sz ys)).ty) (xbB _),xaF (bx:=xNc bx (.list sz ys)) (xbB _)] at h4;rw [xal ad,xaF ad];exact h4
   . by_cases h2:x=.r n i j
     ·
      subst h2;rw [Y] at q;cases q;have au:∃ rb,getB (H.set n (xMU bx bx.ver i j (.int .i64 ys.length))++[⟨0,sz,rowTy bx.ty,ys,bx.frz,true⟩]) (.r n i j)=some rb/\rb=⟨2*ys.length+1,0,rowTy bx.ty,[],bx.frz,true⟩:=by
       refine ⟨_,?_,rfl⟩;rw [xem ae ab g4 g5 (by rw [J];exact g6),U i j hj,if_pos ⟨rfl,rfl⟩]
       simp [xNc,rowLen,xMU]
      obtain ⟨rb,r1,rfl⟩:=au;have hc:∀ {p:Prop},0<(0:Nat)->p:=fun h=>absurd h (by simp)
      exact ⟨_,r1,by simp only;omega,rfl,by rw [xaH (xbB _)];exact ai,zQ _,zQ _,fun x hx=>by simp at hx,hc,hc,hc,hc⟩
     . have Z:x.base=n:=by
        rcases hS with h|h
        . exact h
        . rw [Q x h1 h2] at q;rw [hR.none_of_base (by rw [h];exact zd _)] at q;cases q
       rw [Q x h1 h2] at q;obtain ⟨bx',k1,k2⟩:=hR.box x m' q;cases x with
       | r n' i' j' =>
        simp only [Id.base] at Z;subst Z;have k3:getB (H.set n' (xMU bx bx.ver i j (.int .i64 ys.length))++[⟨0,sz,rowTy bx.ty,ys,bx.frz,true⟩]) (.r n' i' j')=some bx':=by
         obtain ⟨e2,e3,e4,e5⟩:=xh2 hb ab k1;have al:=af j' e2;subst al;have ap:i'≠i:=fun e=>h2 (by rw [e])
         rw [xem ae ab e2 e3 (by rw [J];exact e4),U i' j' hj,if_neg (fun e=>ap e.1),e5]
         rfl
        exact ⟨bx',k3,k2.mono (fun _=>rfl) (fun _ _ _=>rfl) (zd _) (fun _ _ h=>h) k2.guard O⟩
       | b n' =>
        simp only [Id.base] at Z;subst Z;rw [xaT,hb] at k1;cases k1;have k4:=k2.mono (w':=w) (fun _=>rfl) (fun _ _ _=>rfl) (zd _) (fun _ _ h=>h) k2.guard O
        refine ⟨_,ae,k4.ver,k4.sz,k4.ty,k4.capm,by rw [J];exact k4.fits,fun y hy=>?_,k4.low,k4.lt,fun h0=>?_,k4.guard⟩
        . rcases List.mem_or_eq_of_mem_set hy with hy|rfl
          . exact k4.ok y hy
          . rw [<-k4.sz];exact xqf hj (by rw [k4.sz];exact k4.ok _ (xau g6)) rfl rfl
        . obtain ⟨c,c1,c2,c3⟩:=k4.cells h0;refine ⟨c,by rw [J];exact c1,c2,fun i' k aa hk=>?_⟩
          rw [J] at aa;have h4:=c3 i' k aa hk;have ao:MV M' (xMU bx bx.ver i j (.int .i64 ys.length)) k=MV M' bx k:=rfl;have ax:xM9 n' i' k (xMU bx bx.ver i j (.int .i64 ys.length)).ty (((xMU bx bx.ver i j (.int .i64 ys.length)).xs.getD i' .top).cells.getD k .top)=xM9 n' i' k bx.ty ((bx.xs.getD i' .top).cells.getD k .top):=by
           rw [U i' k (by rw [k4.sz];exact hk)]
           split
           . rename_i ar;obtain ⟨rfl,rfl⟩:=ar;show xM9 n' i' k bx.ty _=_;unfold xM9;rw [g4,hx];rfl
           . rfl
          simp only [Id.base];rw [ao,ax];exact h4
 . obtain ⟨y,m0,a1,a2,a3,_⟩:=W x m' h h0;exact .inl ⟨y,m0,a1,by omega,a2.symm⟩
 . obtain ⟨m1,b1,b2,b3,b4⟩:=Rel.osl_inv hv;rw [hm] at b1;cases b1;obtain ⟨e1,a,e2,e3⟩:=b4 aj;exact .osl v (.b H.length) 0 0 ys.length _ V (zd _) b3 fun _=>⟨e1,a,e2,e3⟩
def deadLen:AV->Option Nat
 | .int _ l=>some l.toNat
 | _=>none
def absAdopt (P:Program) (H:List Box) (t:TypeId) (a v:AV):Option (List Box) :=
 match xML P t,a,v with
 | some ti,.own (.b n) ver i j,.osl (.b id) ver2 off len=>match xMP H (.b n) ver,xMP H (.b id) ver2 with
  | some bx,some b2=>match deadLen ((bx.xs.getD i .top).cells.getD j .top) with
   | some l0=>if ti.sz=1/\bx.frz=false/\xMN bx.ty j=true/\bx.pm=true/\j<bx.sz/\i<bx.xs.length/\(bx.xs.getD i .top).cells.length=bx.sz /\
     b2.frz=false/\b2.pm=true/\isC b2.ty=false/\b2.ty=rowTy bx.ty/\off=0/\len=b2.xs.length/\l0<len then
    some ((H.set id ⟨ver2+1,b2.sz,b2.ty,[],false,true⟩).set n (xMU bx ver i j (.list b2.sz b2.xs))) else none
   | none=>none
  | _,_=>none
 | _,_,_=>none
theorem xDG (hR:HR w A M B H) {o:Oper} {ρc:Operand->Value} {t:TypeId} {oa ov:Operand} {xa xv:AV} {H':List Box} (ho:o.op=.store t oa ov) (ha:Rel w A M (ρc oa) xa) (hv:Rel w A M (ρc ov) xv) (h:absAdopt P H t xa xv=some H') :
  Writes P o ρc w A M B (.tuple []) H':=by
 unfold absAdopt at h;split at h
 case h_2=>simp at h
 rename_i ti n ver i j id Q off len b5;split at h
 case h_2=>simp at h
 rename_i bx b2 aw aq;split at h
 case h_2=>simp at h
 rename_i l0 Y;split at h
 case isFalse=>simp at h
 rename_i b7;obtain ⟨bu,a8,V,b6,an,hi,bj,a9,bh,Z,bc,rfl,rfl,b9⟩:=b7;cases h;obtain ⟨m,hm,q,bn⟩:=xn0 hR ha aw;obtain ⟨m2,a2,al,O,bk,ba,ca⟩:=xjy hR hv aq;obtain ⟨ag,bg⟩:=xaw aw;obtain ⟨aj,ao⟩:=xaw aq;rw [xaT] at ag aj;have hne:id≠n:=fun e=>by
  subst e;rw [ag] at aj;cases aj;have:=xfi V;rw [Z] at this;cases this
 have U:0<m.cap:=by have:=q.fits;omega
 obtain ⟨c,h1,h2,h3⟩:=q.cells U;have bb:xMO m.ty=false:=q.nomap (xci aw)
 replace h1:=h1.plain bb
 have hsz:=q.sz;have bi:j<m.sz:=by omega
 have au:(ρc ov).cells=#[ρc ov]:=by rw [ba];rfl
 have az:(ρc ov).cells.size=1:=by rw [au];rfl
 have bv:i*m.sz+m.sz<=c.size:=by
  rw [h2];have:(i+1)*m.sz<=m.cap*m.sz:=Nat.mul_le_mul_right _ (Nat.le_trans hi q.fits);rw [Nat.add_mul,Nat.one_mul] at this;exact this
 have ap:i*m.sz+j+(ρc ov).cells.toList.length<=c.toList.length:=by simp [az];omega
 have ar:=run_storeCells_at P m.b (i*m.sz+j) m.ty (ρc ov).cells.toList 0 c w h1 (by simp [az];omega) (fun u hu=>by
  rw [au] at hu;simp only [zv] at hu;subst hu;rw [ba];rfl)
 simp only [Nat.add_zero] at ar;have bt:A m.b:=(q.guard U).1 a8;generalize ay:(xND c.toList (i*m.sz+j) (ρc ov).cells.toList).toArray=c' at ar;have b0:c'.size=m.cap*m.sz:=by rw [<-ay];have:=xjF ap;simp at this |-;omega
 have bw:∀ k,c'.getD k undef=if k=i*m.sz+j then ρc ov else c.getD k undef:=fun k=>by
  rw [<-ay,xeO,xhs ap,au];by_cases hk:k=i*m.sz+j
  . subst hk;simp
  . rw [if_neg (by simp;omega),if_neg hk,xbV]
 have hs:(w.setRow m.b c').heap.size=w.heap.size:=by simp [World.setRow]
 have hw:∀ b,b<w.heap.size->¬ A b->(w.setRow m.b c').heap[b]?=w.heap[b]?:=fun b _ hb=>setRow_other w m.b b c' fun e=>hb (e▸bt)
 let M':Id->Option MB:=fun x=>if x=.b id then some ⟨m2.b,m2.ver+1,m2.sz,0,m2.ty⟩ else if x=.r n i j then some ⟨m2.b,2*b2.xs.length,m2.sz,m2.cap,m2.ty⟩ else M x
 have ah:M' (.b id)=some ⟨m2.b,m2.ver+1,m2.sz,0,m2.ty⟩:=by simp [M']
 have ad:M' (.r n i j)=some ⟨m2.b,2*b2.xs.length,m2.sz,m2.cap,m2.ty⟩:=by simp [M']
 have aa:∀ x:Id,x≠.b id->x≠.r n i j->M' x=M x:=fun x h1 h2=>by simp [M',h1,h2]
 have b8:∀ m0,M (.r n i j)=some m0->m0.cap=0/\m0.ver<2*b2.xs.length->m0.ver<2*b2.xs.length:=fun _ _ h=>h.2
 have a6:∀ m0,M (.r n i j)=some m0->m0.ver<2*b2.xs.length:=fun m0 h0=>by
  obtain ⟨rb,k1,k2⟩:=hR.box _ m0 h0;obtain ⟨k4,k5,k6,k7⟩:=xh2 ag (xfi V) k1;have k8:=k2.ver;rw [k7] at k8;unfold deadLen at Y;split at Y
  . rename_i kk l hl;simp only [z6] at Y;rw [hl] at k8;simp only [xNc,rowLen] at k8;omega
  . simp at Y
 have W:MExt M M':=fun x m0 h0=>by
  by_cases e1:x=.b id
  . subst e1;rw [al] at h0;cases h0;exact ⟨_,ah,.inr (Nat.lt_succ_self _)⟩
  . by_cases e2:x=.r n i j
    . subst e2;exact ⟨_,ad,.inr (a6 m0 h0)⟩
    . exact ⟨m0,by rw [aa x e1 e2];exact h0,.inl rfl⟩
 have ai:∀ x m',M' x=some m'->0<m'.cap->∃ y m0,M y=some m0/\m0.b=m'.b/\m0.cap=m'.cap/\(x=.r n i j/\y=.b id\/x=y/\y≠.b id/\y≠.r n i j):=fun x m' h h0=>by
  by_cases e1:x=.b id
  . subst e1;rw [ah] at h;cases h;exact absurd h0 (by simp)
  . by_cases e2:x=.r n i j
    . subst e2;rw [ad] at h;cases h;exact ⟨_,m2,al,rfl,rfl,.inl ⟨rfl,rfl⟩⟩
    . rw [aa x e1 e2] at h;exact ⟨x,m',h,rfl,rfl,.inr ⟨rfl,e1,e2⟩⟩
 have be:∀ (x:Id) m1 x' m2,M' x=some m1->M' x'=some m2->0<m1.cap->0<m2.cap->m1.b=m2.b->x=x':=fun x m1 x' m2 h1 h2 c1 c2 he=>by
  obtain ⟨y,n1,a1,a2,a3,a4⟩:=ai x m1 h1 c1;obtain ⟨y',n2,b1,b2,b3,b4⟩:=ai x' m2 h2 c2;have:=hR.inj y y' n1 n2 a1 b1 (by omega) (by omega) (by rw [a2,b2,he])
  subst this;rcases a4 with ⟨rfl,e1⟩|⟨rfl,e1,_⟩<;>rcases b4 with ⟨rfl,e2⟩|⟨rfl,e2,_⟩
  . rfl
  . exact absurd e1 e2
  . exact absurd e2 e1
  . rfl
 have af:∀ (x:Id) m0,x≠.b n->M x=some m0->0<m0.cap->(w.setRow m.b c').heap[m0.b]?=w.heap[m0.b]?:=fun x m0 hx h0 c0=>setRow_other w m.b m0.b c' fun e=>hx (hR.inj x (.b n) m0 m h0 hm c0 U e)
 have hn:n<H.length:=xbO ag;have bq:id<H.length:=xbO aj;have ax:((H.set id ⟨Q+1,b2.sz,b2.ty,[],false,true⟩).set n (xMU bx ver i j (.list b2.sz b2.xs)))[n]?=some (xMU bx ver i j (.list b2.sz b2.xs)):=zL (by simpa using hn)
 have a7:((H.set id ⟨Q+1,b2.sz,b2.ty,[],false,true⟩).set n (xMU bx ver i j (.list b2.sz b2.xs)))[id]?=some ⟨Q+1,b2.sz,b2.ty,[],false,true⟩:=by
  rw [zX (Ne.symm hne),zL bq]
 have ac:(xMU bx ver i j (.list b2.sz b2.xs)).xs.length=bx.xs.length:=by simp [xMU]
 have ab:∀ i' k,k<bx.sz->((xMU bx ver i j (.list b2.sz b2.xs)).xs.getD i' .top).cells.getD k .top=if i'=i/\k=j then .list b2.sz b2.xs else (bx.xs.getD i' .top).cells.getD k .top:=fun i' k hk=>xwj hi an bj rfl hk
 have a5:∀ k,xMN bx.ty k=true->k=j:=fun k hk=>by
  have hc:=xfi hk;unfold xMN at hk V;rw [hc] at hk V;rw [zg hk,zg V]
 have hR':HR (w.setRow m.b c') A M' B ((H.set id ⟨Q+1,b2.sz,b2.ty,[],false,true⟩).set n (xMU bx ver i j (.list b2.sz b2.xs))):=by
  refine hR.rebuild (fun k=>k=n\/k=id) (fun k hk cb=>?_) (fun x J=>aa x (fun e=>J (.inr (by rw [e];rfl))) fun e=>J (.inl (by rw [e];rfl))) (fun x m0 J h0 c0=>⟨af x m0 (fun e=>J (.inl (by rw [e];rfl))) h0 c0,fun h=>h⟩) hw (by rw [hs];exact zd _) (fun _ _ h=>h) W (fun x m' hS J=>?_) (fun x m1 x' m2 _ h1 h2 c1 c2 he=>be x m1 x' m2 h1 h2 c1 c2 he) (fun b hb=>by rw [hs];exact hR.lt b hb)
  . rw [zX (fun e=>hk (.inl e.symm)),zX (fun e=>hk (.inr e.symm))]
  . by_cases e1:x=.b id
    ·
     subst e1;rw [ah] at J;cases J;have hc:∀ {p:Prop},0<(0:Nat)->p:=fun h=>absurd h (by simp)
     exact ⟨(⟨Q+1,b2.sz,b2.ty,[],false,true⟩:Box),a7,by simp only;rw [<-O.ver,ao],O.sz,O.ty,zQ _,zQ _,fun x hx=>by simp at hx,hc,hc,hc,hc⟩
    . by_cases e2:x=.r n i j
      ·
       subst e2;rw [ad] at J;cases J;have bp:getB ((H.set id ⟨Q+1,b2.sz,b2.ty,[],false,true⟩).set n (xMU bx ver i j (.list b2.sz b2.xs))) (.r n i j)=some ⟨2*b2.xs.length,b2.sz,rowTy bx.ty,b2.xs,bx.frz,true⟩:=by
        rw [xem ax (xfi V) V b6 (by rw [ac];exact hi),ab i j an,if_pos ⟨rfl,rfl⟩]
        rfl
       have k4:=O.mono (w':=w.setRow m.b c') (A':=A) (M':=M') (fun h0=>af (.b id) m2 (fun e=>hne (by injection e)) al h0) hw (by rw [hs];exact zd _) (fun _ _ h=>h) O.guard W
       refine ⟨_,bp,rfl,k4.sz,by rw [<-bc];exact k4.ty,k4.capm,k4.fits,k4.ok,k4.low,k4.lt,fun h0=>?_,fun h0=>?_⟩
       . obtain ⟨cc,c1,c2,c3⟩:=k4.cells h0;refine ⟨cc,c1,c2,fun i' k am hk=>?_⟩
         have h4:=c3 i' k am hk;rw [xal Z,xaF Z,bh] at h4;rw [xal (xbB _),xaF (bx:=⟨2*b2.xs.length,b2.sz,rowTy bx.ty,b2.xs,bx.frz,true⟩) (xbB _)];exact h4
       . have:=k4.guard h0;rw [a9] at this;rw [a8];exact this
      . by_cases ae:x.base=id
        ·
         rw [aa x e1 e2] at J;obtain ⟨bx',k1,k2⟩:=hR.box x m' J;cases x with
         | b k=>exact absurd (by rw [<-ae];rfl) e1
         | r k i' j' =>
          simp only [Id.base] at ae;subst ae;rw [xch aj Z] at k1;cases k1;exact ⟨tombB,xch a7 Z,k2.mono (fun h0=>af _ m' (fun e=>by cases e) J h0) hw (by rw [hs];exact zd _) (fun _ _ h=>h) k2.guard W⟩
        have ak:x.base=n:=by
         rcases hS with h|h
         . exact h
         . exact absurd h ae
        rw [aa x e1 e2] at J;obtain ⟨bx',k1,k2⟩:=hR.box x m' J;cases x with
        | r n' i' j' =>
         simp only [Id.base] at ak;subst ak;have k3:getB ((H.set id ⟨Q+1,b2.sz,b2.ty,[],false,true⟩).set n' (xMU bx ver i j (.list b2.sz b2.xs))) (.r n' i' j')=some bx':=by
          obtain ⟨bf,e3,e4,e5⟩:=xh2 ag (xfi V) k1;have bm:=a5 j' bf;subst bm;have bz:i'≠i:=fun e=>e2 (by rw [e])
          rw [xem ax (xfi V) bf e3 (by rw [ac];exact e4),ab i' j' an,if_neg (fun e=>bz e.1),e5]
          rfl
         exact ⟨bx',k3,k2.mono (fun h0=>af _ m' (fun e=>by cases e) J h0) hw (by rw [hs];exact zd _) (fun _ _ h=>h) k2.guard W⟩
        | b n' =>
         simp only [Id.base] at ak;subst ak;rw [hm] at J;cases J;refine ⟨xMU bx ver i j (.list b2.sz b2.xs),ax,by rw [<-q.ver,bg];rfl,q.sz,q.ty,q.capm,by rw [ac];exact q.fits,fun y hy=>?_,q.low,fun h0=>by rw [hs];exact q.lt h0,fun h0=>?_,q.guard⟩
         . rcases List.mem_or_eq_of_mem_set hy with hy|rfl
           . exact q.ok y hy
           . rw [<-q.sz];exact xqf an (by rw [q.sz];exact q.ok _ (xau hi)) rfl rfl
         . refine ⟨c',.of bb (setRow_heap w m.b c c' m.ty (0,0) h1),b0,fun i' k am hk=>?_⟩
           rw [ac] at am;have bo:MV M' (xMU bx ver i j (.list b2.sz b2.xs)) k=MV M' bx k:=rfl;show Rel _ _ (MV M' (xMU bx ver i j (.list b2.sz b2.xs)) k) _ (xM9 n' i' k bx.ty _);rw [bo,ab i' k (by omega),bw]
           by_cases a0:i'=i/\k=j
           . obtain ⟨rfl,rfl⟩:=a0;rw [if_pos rfl,if_pos ⟨rfl,rfl⟩];unfold MV xM9;rw [V];obtain ⟨m3,q1,q2,q3,q4⟩:=Rel.osl_inv hv;rw [al] at q1;cases q1;obtain ⟨q5,a,q6,q7⟩:=q4 (by rw [<-ao,O.ver])
             exact .osl _ (.r n' i' k) _ _ _ _ ad (zd _) q3 fun _=>⟨q5,a,q6,q7⟩
           . rw [if_neg a0,if_neg (fun e=>a0 (xJA hk bi e))]
             exact (h3 i' k am hk).mono hw (by rw [hs];exact zd _) (fun _ _ h=>h) (xAe W bx k)
 refine ⟨.skip,w.setRow m.b c',A,M',undef,?_,.inr ⟨rfl,rfl⟩,⟨rfl,rfl,rfl,by rw [hs];exact zd _,fun k hk=>setRow_other w m.b k c' fun e=>by have:=q.low U;omega⟩,W,fun _ _=>Iff.rfl,hw,⟨fun b _ hb=>setRow_other w m.b b c' fun e=>hb (.b n) m hm U e.symm,fun x m' h h0=>?_⟩,hR',.tuple #[] [] rfl (by simp)⟩
 . simp only [execOp,ho,bn,Instr.storeAt,Instr.sureAddr,storeVar,Sem.run_bind,Sem.run_pure,Result.andThen_ok,xcO b5,bu,az,ne_eq,not_true,if_false];rw [ar,<-ay];rfl
 . obtain ⟨y,m0,a1,a2,a3,_⟩:=ai x m' h h0;exact .inl ⟨y,m0,a1,by omega,a2.symm⟩
def newRow (t:TypeId) (sz:Nat) (y:AV):AV:=putCells y (xMS t) 1 sz (.list (rowSz t) [])
theorem xqe {t:TypeId} {sz:Nat} {y:AV} (hs:xMS t<sz) (hy:y.okElem sz=true) {k:Nat} (hk:k<sz):(newRow t sz y).cells.getD k .top=if k=xMS t then .list (rowSz t) [] else y.cells.getD k .top :=
 (xsj hs (xan hy) rfl).2 k hk
theorem xr3 {t:TypeId} {k:Nat}:xMN t k=true->k=xMS t:=fun h=>by
 have hc:=xfi h;unfold xMN at h;rw [hc] at h;exact zg h
theorem HR.grown (hR:HR w A M B H) {n:Nat} {m m':MB} {bx:Box} {w':World} {A':Nat->Prop} {c':Array Value} {ys:List AV}
  (hm:M (.b n)=some m) (hb:H[n]?=some bx) (Q:BoxAt w A M B (.b n) m bx) (az:bx.frz=false) (hC:isC bx.ty=true) (a7:xMO m.ty=false) (ar:bx.pm=true) (ac:xMS bx.ty<m.sz)
  (hw:∀ b,b<w.heap.size->¬ A b->w'.heap[b]?=w.heap[b]?) (hs:w.heap.size<=w'.heap.size) (hA:∀ b,b<w.heap.size->A' b->A b)
  (Z:∀ x m0,x≠.b n->M x=some m0->0<m0.cap->w'.heap[m0.b]?=w.heap[m0.b]?/\(A m0.b->A' m0.b))
  (e1:m'.ver=m.ver+1) (e2:m'.sz=m.sz) (e3:m'.ty=m.ty) (hcap:bx.xs.length+ys.length<=m'.cap) (bc:m'.cap<=maxLen) (al:B<=m'.b) (a0:m'.b<w'.heap.size) (ba:A' m'.b)
  (hc:w'.heap[m'.b]?=some (.cells c' m'.ty (0,0))) (a8:c'.size=m'.cap*m.sz) (ax:m'.b=m.b/\0<m.cap\/w.heap.size<=m'.b)
  (aq:∀ i j,i<bx.xs.length->j<m.sz->Rel w A (MV M bx j) (c'.getD (i*m.sz+j) undef) (xM9 n i j bx.ty ((bx.xs.getD i .top).cells.getD j .top)))
  (ao:∀ i j,i<ys.length->j<m.sz->Rel w A xMZ (c'.getD ((bx.xs.length+i)*m.sz+j) undef) ((ys.getD i .top).cells.getD j .top))
  (ag:∀ y,y∈ys->y.okElem m.sz=true) (aw:∀ y,y∈ys->y.cells.getD (xMS bx.ty) .top=.nils) (am:∀ b,A' b->b<w'.heap.size) :
  ∃ M',HR w' A' M' B (H.set n ⟨bx.ver+1,bx.sz,bx.ty,bx.xs++ys.map (newRow bx.ty bx.sz),false,true⟩)/\MExt M M'/\M' (.b n)=some m'/\∀ x m0,M' x=some m0->0<m0.cap->x=.b n/\m0=m'\/M x=some m0/\x≠.b n:=by
 have hn:n<H.length:=xbO hb;let M':Id->Option MB:=fun x=>if x=.b n then some m' else match x with
  | .b _=>M x
  | .r k i j=>if k=n/\bx.xs.length<=i/\i<bx.xs.length+ys.length/\j=xMS bx.ty then some ⟨0,0,rowSz bx.ty,0,rowTy bx.ty⟩ else M x
 have W:M' (.b n)=some m':=by simp [M']
 have ae:∀ i,bx.xs.length<=i->i<bx.xs.length+ys.length->M' (.r n i (xMS bx.ty))=some ⟨0,0,rowSz bx.ty,0,rowTy bx.ty⟩:=fun i h1 h2=>by simp [M',h1,h2]
 have Y:∀ x:Id,x≠.b n->(∀ i,bx.xs.length<=i->i<bx.xs.length+ys.length->x≠.r n i (xMS bx.ty))->M' x=M x:=fun x h1 h2=>by
  cases x with
  | b k=>simp [M',h1]
  | r k i j =>
   have:¬ (k=n/\bx.xs.length<=i/\i<bx.xs.length+ys.length/\j=xMS bx.ty):=fun ⟨a1,a2,a3,a4⟩=>h2 i a2 a3 (by rw [a1,a4])
   simp [M',this]
 have aj:∀ i j,bx.xs.length<=i->M (.r n i j)=none:=fun i j hi=>by
  cases h:M (.r n i j) with
  | none=>rfl
  | some m0 =>
   obtain ⟨rb,k1,_⟩:=hR.box _ m0 h;obtain ⟨_,_,k3,_⟩:=xh2 hb hC k1;omega
 have U:MExt M M':=fun x m0 h0=>by
  by_cases h1:x=.b n
  . subst h1;rw [hm] at h0;cases h0;exact ⟨m',W,.inr (by omega)⟩
  . exact ⟨m0,by rw [Y x h1 fun i hi _ e=>by subst e;rw [aj i _ hi] at h0;cases h0];exact h0,.inl rfl⟩
 have aa:∀ x m0,M' x=some m0->x=.b n/\m0=m'\/(∃ i,bx.xs.length<=i/\i<bx.xs.length+ys.length/\x=.r n i (xMS bx.ty)/\m0=⟨0,0,rowSz bx.ty,0,rowTy bx.ty⟩)\/(M x=some m0/\x≠.b n):=fun x m0 h=>by
  by_cases h1:x=.b n
  . subst h1;rw [W] at h;simp only [z6] at h;exact .inl ⟨rfl,h.symm⟩
  . by_cases h2:∃ i,bx.xs.length<=i/\i<bx.xs.length+ys.length/\x=.r n i (xMS bx.ty)
    . obtain ⟨i,a1,a2,rfl⟩:=h2;rw [ae i a1 a2] at h;simp only [z6] at h;exact .inr (.inl ⟨i,a1,a2,rfl,h.symm⟩)
    . rw [Y x h1 fun i a1 a2 e=>h2 ⟨i,a1,a2,e⟩] at h
      exact .inr (.inr ⟨h,h1⟩)
 have q:∀ x m0,M' x=some m0->0<m0.cap->x=.b n/\m0=m'\/M x=some m0/\x≠.b n:=fun x m0 h h0=>by
  rcases aa x m0 h with h|⟨i,_,_,_,rfl⟩|h
  . exact .inl h
  . exact absurd h0 (by simp)
  . exact .inr h
 have ak:∀ x m0,M x=some m0->x≠.b n->0<m0.cap->m0.b≠m'.b:=fun x m0 h hx h0 e=>by
  rcases ax with ⟨h1,h2⟩|h1
  . exact hx (hR.inj x (.b n) m0 m h hm h0 h2 (by rw [e,h1]))
  . obtain ⟨be,_,k2⟩:=hR.box x m0 h;have:=k2.lt h0;omega
 have O:(bx.xs++ys.map (newRow bx.ty bx.sz)).length=bx.xs.length+ys.length:=by simp
 have ah:(H.set n ⟨bx.ver+1,bx.sz,bx.ty,bx.xs++ys.map (newRow bx.ty bx.sz),false,true⟩)[n]?=some ⟨bx.ver+1,bx.sz,bx.ty,bx.xs++ys.map (newRow bx.ty bx.sz),false,true⟩:=zL hn;have hsz:=Q.sz;have ap:∀ i,i<bx.xs.length->(bx.xs++ys.map (newRow bx.ty bx.sz)).getD i .top=bx.xs.getD i .top:=fun i hi=>by simp [z7,zP,hi]
 have au:∀ i,i<ys.length->(bx.xs++ys.map (newRow bx.ty bx.sz)).getD (bx.xs.length+i) .top=newRow bx.ty bx.sz (ys.getD i .top):=fun i hi=>by
  simp [z7,zP,hi]
 have J:xMN bx.ty (xMS bx.ty)=true:=by unfold xMN;rw [hC];exact Nat.beq_refl _
 refine ⟨M',hR.rebuild (fun k=>k=n) (fun k hk _=>zX (fun e=>hk e.symm)) (fun x hx=>Y x (fun e=>hx (by rw [e];rfl)) fun i _ _ e=>hx (by rw [e];rfl)) (fun x m0 hx h0 c0=>Z x m0 (fun e=>hx (by rw [e];rfl)) h0 c0) hw hs hA U (fun x m0 hx bb=>?_) (fun x m1 x' m2 _ h1 h2 c1 c2 he=>?_) am,U,W,q⟩
 . rcases aa x m0 bb with ⟨rfl,rfl⟩|⟨i,a1,a2,rfl,rfl⟩|⟨h0,hne⟩
   ·
    refine ⟨_,ah,by simp only;rw [Q.ver,e1],by rw [e2];exact hsz,by rw [e3];exact Q.ty,bc,by rw [O];exact hcap,fun y hy=>?_,fun _=>al,fun _=>a0,fun _=>⟨c',.of (by rw [e3];exact a7) hc,by rw [e2];exact a8,fun i j hi hj=>?_⟩,fun _=>⟨fun _=>ba,fun _=>rfl⟩⟩
    . rw [e2];rcases zG.1 hy with hy|hy
      . exact Q.ok y hy
      . obtain ⟨y0,a5,rfl⟩:=zK.1 hy;rw [hsz];exact xqf ac (ag y0 a5) rfl rfl
    . rw [e2] at hj |-;rw [O] at hi;have a6:MV M' (⟨bx.ver+1,bx.sz,bx.ty,bx.xs++ys.map (newRow bx.ty bx.sz),false,true⟩:Box) j=MV M' bx j:=by unfold MV;rw [ar]
      show Rel _ _ (MV M' _ j) _ (xM9 n i j bx.ty _);rw [a6];by_cases an:i<bx.xs.length
      . rw [ap i an];exact (aq i j an hj).mono hw hs hA (xAe U bx j)
      . obtain ⟨i0,rfl⟩:∃ i0,i=bx.xs.length+i0:=⟨i - bx.xs.length,by omega⟩
        have V:i0<ys.length:=by omega
        have h4:=ao i0 j V hj;have af:=xau V;rw [au i0 V,xqe (by rw [hsz];exact ac) (by rw [hsz];exact ag _ af) (by rw [hsz];exact hj)]
        by_cases ai:j=xMS bx.ty
        . subst ai;rw [if_pos rfl];rw [aw _ af] at h4;have hv:c'.getD ((bx.xs.length+i0)*m.sz+xMS bx.ty) undef=.slice none 0 0:=by
           generalize c'.getD ((bx.xs.length+i0)*m.sz+xMS bx.ty) undef=u at h4;cases h4;rfl
          unfold MV xM9;rw [J,hv];exact .osl _ (.r n _ _) _ _ _ _ (ae _ (Nat.le_add_right _ _) (by omega)) (zd _) rfl fun _=>⟨zd _,none,rfl,fun h=>absurd h (by simp)⟩
        . have a9:xMN bx.ty j=false:=by
           cases hq:xMN bx.ty j with
           | false=>rfl
           | true=>exact absurd (xr3 hq) ai
          rw [if_neg ai];unfold MV xM9;rw [a9,ar];exact h4.mono hw hs hA (MExt.refl _)
   ·
    obtain ⟨i0,rfl⟩:∃ i0,i=bx.xs.length+i0:=⟨i - bx.xs.length,by omega⟩
    have V:i0<ys.length:=by omega
    have ad:∀ {p:Prop},0<(0:Nat)->p:=fun h=>absurd h (by simp)
    refine ⟨⟨0,rowSz bx.ty,rowTy bx.ty,[],false,true⟩,?_,rfl,rfl,xaH (xbB _),zQ _,zQ _,fun y hy=>by simp at hy,ad,ad,ad,ad⟩
    rw [xem ah hC J rfl (by rw [O];omega)]
    simp only;rw [au i0 V,xqe (by rw [hsz];exact ac) (by rw [hsz];exact ag _ (xau V)) (by rw [hsz];exact ac),if_pos rfl]
    rfl
   ·
    have ab:x.base=n:=hx;obtain ⟨rb,k1,k2⟩:=hR.box x m0 h0;cases x with
    | b k=>simp only [Id.base] at ab;subst ab;exact absurd rfl hne
    | r k i j =>
     simp only [Id.base] at ab;subst ab;obtain ⟨q2,q3,q4,q5⟩:=xh2 hb hC k1;have ay:bx.frz=false:=az;refine ⟨rb,?_,k2.mono (fun c0=>(Z _ m0 hne h0 c0).1) hw hs hA (fun c0=>?_) U⟩
     . rw [xem ah hC q2 rfl (by rw [O];omega)]
       simp only;rw [ap i q4,q5];generalize (bx.xs.getD i .top).cells.getD j .top=z;cases z<;>simp [xNc,ay]
     . rw [k2.guard c0];exact ⟨(Z _ m0 hne h0 c0).2,hA _ (k2.lt c0)⟩
 . rcases q x m1 h1 c1 with ⟨rfl,rfl⟩|⟨a1,a2⟩<;>rcases q x' m2 h2 c2 with ⟨rfl,rfl⟩|⟨b1,b2⟩
   . rfl
   . exact absurd he.symm (ak x' m2 b1 b2 c2)
   . exact absurd he (ak x m1 a1 a2 c1)
   . exact hR.inj x x' m1 m2 a1 b1 c1 c2 he
def isNils:AV->Bool
 | .nils=>true
 | _=>false
def absAppC (P:Program) (H:List Box) (t tt:TypeId) (s x:AV):Option (AV×List Box) :=
 match xML P t,s with
 | some ti,.osl (.b n) ver off len=>match ti.d with
  | .slice e=>match xML P e,xMP H (.b n) ver with
   | some te,some bx=>match absSrc P H t tt e te.sz x with
    | some (ys,pm)=>if off=0/\len=bx.xs.length/\bx.frz=false/\bx.sz=te.sz/\isC bx.ty=true/\rty bx.ty=e/\bx.pm=true/\pm=true/\xMS bx.ty<te.sz/\0<te.sz /\
      (len+ys.length)*te.bytes<=140737488355328/\len+ys.length<=xNA/\te.zero.okElem te.sz=true/\0<ys.length/\ys.all (fun y=>isNils (y.cells.getD (xMS bx.ty) .top))=true then
     some (.osl (.b n) (ver+1) 0 (len+ys.length),H.set n ⟨ver+1,te.sz,bx.ty,bx.xs++ys.map (newRow bx.ty te.sz),false,true⟩) else none
    | none=>none
   | _,_=>none
  | _=>none
 | _,_=>none
set_option maxHeartbeats 1000000 in
theorem xFb (hR:HR w A M B H) (hB:B<=w.heap.size) {o:Oper} {ρc:Operand->Value} {c:Call} {t tt:TypeId} {os ox:Operand} {xs xx r:AV} {H':List Box} (ho:o.op=.call c) (a5:c.callee=.builtin .append)
  (bw:c.argTypes.toList=[t,tt]) (bv:c.args.toList=[os,ox]) (hs:Rel w A M (ρc os) xs) (hx:Rel w A M (ρc ox) xx) (h:absAppC P H t tt xs xx=some (r,H')) :
  Writes P o ρc w A M B r H':=by
 unfold absAppC at h;split at h
 case h_2=>simp at h
 rename_i ti n ver off len b2;split at h
 case h_2=>simp at h
 rename_i e hd;split at h
 case h_2=>simp at h
 rename_i te bx bc aj;split at h
 case h_2=>simp at h
 rename_i ys pm bp;split at h
 case isFalse=>simp at h
 rename_i b6;obtain ⟨rfl,ac,az,hsz,hC,b3,bf,rfl,be,a4,a2,bj,ar,bt,bg⟩:=b6;simp only [z6,zb] at h;obtain ⟨rfl,rfl⟩:=h;have hu:P.underlying t=some (.slice e):=by rw [xlF b2,hd]
 obtain ⟨i,z,ah,ca,ap,aa,a0,b0,_⟩:=xaW bc;have a8:=xr4 (ty:=o.type) hR bc a4 hu ah hx bp;have hts':c.argTypes=#[t,tt]:=by apply Array.ext';simpa using bw
 have has':c.args=#[os,ox]:=by apply Array.ext';simpa using bv
 have ag:∀ v w',(Builtin.append_ #[t,tt] o.type #[ρc os,ρc ox]).run P w=.ok v w'->(execOp ρc o).run P w=.ok (.value v) w':=by
  intro v w' hv;simp [execOp,ho,resolve,a5,hts',has',invoke,builtin,hv,Go.resolve]
 rcases a8 with ⟨rfl,_⟩|⟨_,bu,news,ab,a7,Y⟩
 . simp at bt
 obtain ⟨m,a,hm,O,au,ad,ha⟩:=xjy hR hs aj;obtain ⟨aw,bh⟩:=xaw aj;rw [xaT] at aw;simp only [Nat.sub_zero,zH] at ad au;have U:m.sz=te.sz:=by rw [<-O.sz,hsz]
 have a6:m.ty=e:=by rw [<-O.ty,b3]
 have a9:m.ver=ver:=by rw [<-O.ver,bh]
 have b7:len+ys.length<=4611686018427387904:=bj;have hnil':∀ y,y∈ys->y.cells.getD (xMS bx.ty) .top=.nils:=fun y hy=>by
  have:=zI.1 bg y hy;generalize y.cells.getD (xMS bx.ty) .top=q at this;cases q<;>first|rfl|(simp [isNils] at this)
 have hok':∀ y,y∈ys->y.okElem m.sz=true:=fun y hy=>by rw [U];exact bu y hy
 have hH':(⟨ver+1,te.sz,bx.ty,bx.xs++ys.map (newRow bx.ty te.sz),false,true⟩:Box)=⟨bx.ver+1,bx.sz,bx.ty,bx.xs++ys.map (newRow bx.ty bx.sz),false,true⟩:=by rw [hsz,bh]
 rw [hH'];have bz:Rel w A M z te.zero:=by rw [b0];exact xcN w A M z
 obtain ⟨b9,_⟩:=bz.cells (xaE ar);have cb:=xan ar;have ak:∀ (c1:Array Value) (cap:Nat),c1.size=cap*te.sz->len+ys.length<=cap->cap<=maxLen ->
   (∀ i j,i<bx.xs.length->j<m.sz->Rel w A (MV M bx j) (c1.getD (i*m.sz+j) undef) (xM9 n i j bx.ty ((bx.xs.getD i .top).cells.getD j .top))) ->
   (∀ k,k<ys.length*te.sz->c1.getD (len*te.sz+k) undef=news.getD k undef) ->
   (Builtin.append_ #[t,tt] o.type #[ρc os,ρc ox]).run P w=.ok (.slice (some ⟨w.heap.size,0,none⟩) (len+ys.length) cap) (w.drew.alloc (.cells c1 e)) ->
   Writes P o ρc w A M B (.osl (.b n) (ver+1) 0 (len+ys.length)) (H.set n ⟨bx.ver+1,bx.sz,bx.ty,bx.xs++ys.map (newRow bx.ty bx.sz),false,true⟩):=by
  intro c1 cap am ae af bb ba Q;have W:Below w.heap.size w (w.drew.alloc (.cells c1 e)):=((Below.refl _ _).drew).alloc (by simp) _
  have hA:∀ b,b<w.heap.size->(APut A w.heap.size false b->A b):=fun b hb h=>by
   rcases h with h|⟨h,_⟩
   . exact h
   . omega
  have bk:(w.drew.alloc (.cells c1 e)).heap[w.heap.size]?=some (.cells c1 e (0,0)):=heap_alloc_new w.drew (.cells c1 e);obtain ⟨M',g1,g2,g3,g4⟩:=hR.grown (m':=⟨w.heap.size,ver+1,te.sz,cap,e⟩) (w':=w.drew.alloc (.cells c1 e)) (A':=APut A w.heap.size false) (c':=c1) (ys:=ys) hm aw O az hC (O.nomap (xci aj)) bf (by rw [U];exact be)
   (fun b hb _=>W.block b hb) W.size hA (fun x m0 _ h0 c0=>by
    obtain ⟨b8,_,k2⟩:=hR.box x m0 h0;exact ⟨W.block _ (k2.lt c0),.inl⟩) (by simp [a9]) U.symm a6.symm (by simp;omega) af hB (by simp) (.inr ⟨rfl,rfl⟩) bk (by simp [U,am]) (.inr (zd _)) bb
   (fun i' j V hj=>by
    rw [U] at hj |-;rw [Nat.add_mul,Nat.add_assoc,<-ac,ba _ (xda V hj)];exact a7 i' j V hj) hok' hnil' (fun b hb=>by
     rcases hb with hb|⟨rfl,_⟩
     . have:=hR.lt b hb;simp;omega
     . simp)
  exact ⟨_,_,APut A w.heap.size false,M',_,ag _ _ Q,.inl rfl,W.mono hB,g2,fun b hb=>⟨hA b hb,.inl⟩,fun b hb _=>W.block b hb,⟨fun b hb _=>W.block b hb,fun x m0 h0 c0=>by
   rcases g4 x m0 h0 c0 with ⟨_,rfl⟩|⟨h1,_⟩
   . exact .inr (zd _)
   . exact .inl ⟨x,m0,h1,c0,rfl⟩⟩,g1,.osl _ (.b n) (ver+1) 0 (len+ys.length) _ g3 (zd _) rfl fun _=>⟨by simpa using ae,some ⟨w.heap.size,0,none⟩,by simp,fun _=>by simp⟩⟩
 rcases Nat.eq_zero_or_pos m.cap with J|J
 ·
  have bm:bx.xs=[]:=zA (by omega)
  have bo:len=0:=by omega
  subst bo;rw [J] at ad;have ae:=grownCap_ge w (0+ys.length) 0 e;have af:=grownCap_le_maxLen w (0+ys.length) 0 e (by unfold maxLen;omega)
  have ai:(Builtin.zeroCells z.cells (grownCap w (0+ys.length) 0 e - ys.length)).size=(grownCap w (0+ys.length) 0 e - ys.length)*te.sz:=by rw [size_zeroCells];congr 1;omega
  refine ak (news.toArray++Builtin.zeroCells z.cells (grownCap w (0+ys.length) 0 e - ys.length)) (grownCap w (0+ys.length) 0 e) (by rw [Array.size_append,List.size_toArray,ab,ai,<-Nat.add_mul];congr 1;omega) ae af (fun i' j V _=>by rw [bm] at V;simp at V) (fun k hk=>?_) ?_
  . rw [show 0*te.sz+k=k by omega]
    simp only [zu,Array.getElem?_append,List.size_toArray,ab,hk,if_true,List.getElem?_toArray,z7]
  . rw [ad];cases a with
    | none =>
     have Q:=(Y i z ah ap aa.symm).nil (by omega) (by rw [<-a0];simp at a2;omega)
     simpa using Q
    | some a =>
     have Q:=(Y i z ah ap aa.symm).grow a 0 0 [] (by simp) (by simp) (by omega) (by omega) (growslice_fits (by omega) (by rw [<-a0];exact a2))
     simpa using Q
 have bn:=ha J;subst bn;simp only [Nat.zero_mul] at ad;obtain ⟨c0,h1,h2,h3⟩:=O.cells J
 replace h1:=h1.plain (O.nomap (xci aj))
 have bi:A m.b:=(O.guard J).1 az;have bq:len<=m.cap:=au;by_cases Z:len+ys.length<=m.cap
 ·
  have al:len*te.sz+news.length<=c0.toList.length:=by
   have b4:c0.toList.length=m.cap*te.sz:=by simp [h2,U]
   rw [ab,<-Nat.add_mul,b4];exact Nat.mul_le_mul_right _ Z
  have Q:(Builtin.append_ #[t,tt] o.type #[ρc os,ρc ox]).run P w=.ok (.slice (some ⟨m.b,0,none⟩) (len+ys.length) m.cap) (w.setRow m.b (xND c0.toList (len*te.sz) news).toArray):=by
   have a1:len*i.size+news.length<=c0.size:=by
    rw [ab,<-aa,<-Nat.add_mul,h2,U];exact Nat.mul_le_mul_right _ Z
   have:=(Y i z ah ap aa.symm).room m.b len m.cap c0 (by rw [<-a6];exact h1) Z a1
   rw [ad,this,<-aa];rfl
  generalize ay:(xND c0.toList (len*te.sz) news).toArray=c1 at Q;have b1:c1.size=m.cap*m.sz:=by rw [<-ay];have:=xjF al;simp at this |-;omega
  have hs':(w.setRow m.b c1).heap.size=w.heap.size:=by simp [World.setRow]
  have hw:∀ b,b<w.heap.size->¬ A b->(w.setRow m.b c1).heap[b]?=w.heap[b]?:=fun b _ hb=>setRow_other w m.b b c1 fun e=>hb (e▸bi)
  obtain ⟨M',g1,g2,g3,g4⟩:=hR.grown (m':=⟨m.b,ver+1,m.sz,m.cap,m.ty⟩) (w':=w.setRow m.b c1) (A':=A) (c':=c1) (ys:=ys) hm aw O az hC (O.nomap (xci aj)) bf (by rw [U];exact be)
   hw (by rw [hs'];exact zd _) (fun _ _ h=>h) (fun x m0 hx h0 ao=>⟨setRow_other w m.b m0.b c1 fun e=>hx (hR.inj x (.b n) m0 m h0 hm ao J e),fun h=>h⟩) (by simp [a9]) rfl rfl (by simp;omega) O.capm (O.low J) (by rw [hs'];exact O.lt J) bi
   (setRow_heap w m.b c0 c1 m.ty (0,0) h1) b1 (.inl ⟨rfl,J⟩)
   (fun i' j V hj=>by
    rw [<-ay,xeO,xhs al,if_neg (by
     have h9:=xda V hj;rw [<-ac,U] at h9;rw [U];omega),xbV]
    exact h3 i' j V hj)
   (fun i' j V hj=>by
    rw [U] at hj |-;rw [Nat.add_mul,Nat.add_assoc,<-ac,<-ay,xeO,xhs al,if_pos (by have:=xda V hj;rw [ab];omega),show len*te.sz+(i'*te.sz+j) - len*te.sz=i'*te.sz+j by omega]
    exact a7 i' j V hj) hok' hnil' (fun b hb=>by rw [hs'];exact hR.lt b hb)
  exact ⟨_,w.setRow m.b c1,A,M',_,ag _ _ Q,.inl rfl,⟨rfl,rfl,rfl,by rw [hs'];exact zd _,fun k hk=>setRow_other w m.b k c1 fun e=>by have:=O.low J;omega⟩,g2,fun _ _=>Iff.rfl,hw,⟨fun b _ hb=>setRow_other w m.b b c1 fun e=>hb (.b n) m hm J e.symm,fun x m0 h0 ao=>by
   rcases g4 x m0 h0 ao with ⟨_,rfl⟩|⟨b5,_⟩
   . exact .inl ⟨.b n,m,hm,J,rfl⟩
   . exact .inl ⟨x,m0,b5,ao,rfl⟩⟩,g1,.osl _ (.b n) (ver+1) 0 (len+ys.length) _ g3 (zd _) rfl fun _=>⟨by simpa using Z,some ⟨m.b,0,none⟩,by simp,fun _=>by simp⟩⟩
 . have a3:∀ j u,(c0.toList.take (len*te.sz))[j]?=some u->w.cell? ((⟨m.b,0,none⟩:Addr).add j)=some u:=by
    intro j u aq;rw [List.getElem?_take] at aq;split at aq
    . rw [xf0,zH];simp [World.cell?,h1];simpa using aq
    . simp at aq
   have an:(c0.toList.take (len*te.sz)).length=len*te.sz:=by
    simp only [zt,Array.length_toList,h2,U];have:len*te.sz<=m.cap*te.sz:=Nat.mul_le_mul_right _ bq;omega
   have Q:=(Y i z ah ap aa.symm).grow ⟨m.b,0,none⟩ len m.cap (c0.toList.take (len*te.sz)) (by rw [an,aa]) a3 (by omega) (by omega) (growslice_fits (by omega) (by rw [<-a0];exact a2))
   have ae:=grownCap_ge w (len+ys.length) m.cap e;have af:=grownCap_le_maxLen w (len+ys.length) m.cap e (by unfold maxLen;omega)
   generalize hcap:grownCap w (len+ys.length) m.cap e=cap at Q ae af;have ai:(Builtin.zeroCells z.cells (cap - (len+ys.length))).size=(cap - (len+ys.length))*te.sz:=by rw [size_zeroCells];congr 1;omega
   generalize ax:(c0.toList.take (len*te.sz)).toArray++news.toArray++Builtin.zeroCells z.cells (cap - (len+ys.length))=c1 at Q;have am:c1.size=cap*te.sz:=by
    rw [<-ax];simp only [Array.size_append,List.size_toArray,an,ab,ai,<-Nat.add_mul];congr 1;omega
   refine ak c1 cap am ae af (fun i' j V hj=>?_) (fun k hk=>?_) (by rw [ad];exact Q)
   . have hk:=xda V hj;rw [<-ac,U] at hk;have e1:c1.getD (i'*m.sz+j) undef=c0.getD (i'*m.sz+j) undef:=by
      rw [<-xbV,<-xbV,<-ax,U];simp only [Array.toList_append,zw,z7,zP,an,hk,if_true,List.getElem?_take]
     rw [e1];exact h3 i' j V hj
   . rw [<-xbV,<-ax];simp only [Array.toList_append,zw,z7,zP,an,show ¬ len*te.sz+k<len*te.sz by omega,if_false,ab,show len*te.sz+k - len*te.sz=k by omega,hk,if_true]
def mkd (H:List Box):AV->Bool
 | .own (.b n) _ _ _=>match H[n]? with
  | some bx=>isC bx.ty
  | none=>false
 | .osl (.b n) _ _ _=>match H[n]? with
  | some bx=>isC bx.ty
  | none=>false
 | _=>false
def isRowRef:AV->Bool
 | .osl (.r _ _ _) _ _ _=>true
 | _=>false
def absTake (P:Program) (H:List Box) (t tt:TypeId) (s x:AV):Option (AV×List Box) :=
 match s with
 | .osl (.r n i j) ver off len=>match H[n]? with
  | some bx=>match (bx.xs.getD i .top).cells.getD j .top with
   | .list sz ys=>if xMN bx.ty j=true/\bx.pm=true/\j<bx.sz/\i<bx.xs.length/\(bx.xs.getD i .top).cells.length=bx.sz/\ver=2*ys.length/\off=0/\len=ys.length then
    xNP P (H.set n (xMU bx bx.ver i j (.int .i64 ys.length))++[⟨0,sz,rowTy bx.ty,ys,bx.frz,true⟩]) t tt (.osl (.b H.length) 0 0 len) x else none
   | _=>none
  | none=>none
 | _=>none
theorem Writes.pre {o:Oper} {ρc:Operand->Value} {x:AV} {H':List Box} {M1:Id->Option MB} (hm:Mv w A M w A M1) (h:Writes P o ρc w A M1 B x H'):Writes P o ρc w A M B x H':=by
 obtain ⟨n,w',A',M',v,h1,h2,h3,h4,h5,h6,h7,h8,h9⟩:=h;refine ⟨n,w',A',M',v,h1,h2,h3,hm.ext.trans h4,h5,h6,⟨fun b hb J=>h7.1 b hb fun id m q h0 e=>?_,fun id m' q h0=>?_⟩,h8,h9⟩
 . rcases hm.touch.2 id m q h0 with ⟨i,m1,g1,g2,g3⟩|g1
   . exact J i m1 g1 g2 (by rw [<-g3,e])
   . omega
 . rcases h7.2 id m' q h0 with ⟨i,m1,g1,g2,g3⟩|g1
   . rcases hm.touch.2 i m1 g1 g2 with ⟨i2,m2,k1,k2,k3⟩|k1
     . exact .inl ⟨i2,m2,k1,k2,by rw [g3,k3]⟩
     . exact .inr (by rw [g3];exact k1)
   . exact .inr g1
theorem xF5 (hR:HR w A M B H) (hB:B<=w.heap.size) {o:Oper} {ρc:Operand->Value} {c:Call} {t tt:TypeId} {os ox:Operand} {xs xx r:AV} {H':List Box} (ho:o.op=.call c) (J:c.callee=.builtin .append)
  (O:c.argTypes.toList=[t,tt]) (Q:c.args.toList=[os,ox]) (hs:Rel w A M (ρc os) xs) (hx:Rel w A M (ρc ox) xx) (h:absTake P H t tt xs xx=some (r,H')) :
  Writes P o ρc w A M B r H':=by
 unfold absTake at h;split at h
 case h_2=>simp at h
 rename_i n i j ver off len;split at h
 case h_2=>simp at h
 rename_i bx hb;split at h
 case h_2=>simp at h
 rename_i sz ys q;split at h
 case isFalse=>simp at h
 rename_i V;obtain ⟨W,Y,hj,hi,U,rfl,rfl,rfl⟩:=V;obtain ⟨m,hm,_⟩:=Rel.osl_inv hs;obtain ⟨d1,d2,d3⟩:=hR.detach hb W q hj U hm;exact Writes.pre d2 (xvN d1 hB ho J O Q (d3 _ hs) (hx.mono (fun _ _ _=>rfl) (zd _) (fun _ _ h=>h) d2.ext) h)
theorem xJ2 {t:TypeId} (q:xMO t=false):isC (rty t)=false:=by
 unfold rty;split
 . rw [q];show isC (t % 1048576)=false;have h:t % 1048576<1048576:=Nat.mod_lt _ (by omega)
   unfold isC;cases hb:Nat.ble 1048576 (t % 1048576) with
   | false=>rfl
   | true=>have:=Nat.le_of_ble_eq_true hb;exact absurd h (Nat.not_lt.2 this)
 . assumption
theorem HR.unmark (hR:HR w A M B H) {n:Nat} {bx:Box} (hb:H[n]?=some bx) (hC:isC bx.ty=true) (af:xMO bx.ty=false) (ae:rowsOk bx bx.xs=true) :
  ∃ A' M',HR w A' M' B (H.set n ⟨bx.ver,bx.sz,rty bx.ty,bx.xs,bx.frz,true⟩)/\Mv w A M w A' M'/\∀ b,b<B->A b->A' b:=by
 have hn:n<H.length:=xbO hb;let A':Nat->Prop:=fun b=>A b/\¬ ∃ i j m0,M (.r n i j)=some m0/\0<m0.cap/\m0.b=b
 let M':Id->Option MB:=fun x=>match x with
  | .b _=>M x
  | .r k i j=>if k=n then (M x).map fun _=>⟨0,tombB.ver,0,0,0⟩ else M x
 have ai:∀ k,M' (.b k)=M (.b k):=fun k=>rfl
 have O:∀ i j m0,M (.r n i j)=some m0->M' (.r n i j)=some ⟨0,tombB.ver,0,0,0⟩:=fun i j m0 h=>by simp [M',h]
 have Y:∀ i j,M (.r n i j)=none->M' (.r n i j)=none:=fun i j h=>by simp [M',h]
 have Q:∀ x:Id,x.base≠n->M' x=M x:=fun x hx=>by
  cases x with
  | b k=>rfl
  | r k i j=>simp only [Id.base] at hx;simp [M',hx]
 have q:=ae;unfold rowsOk at q;rw [hC] at q;simp only [xNg,zf,zI] at q;obtain ⟨ah,q⟩:=q;have ab:∀ i j m0,M (.r n i j)=some m0->xMN bx.ty j=true/\i<bx.xs.length/\m0.ver<tombB.ver:=fun i j m0 h=>by
  obtain ⟨rb,k1,k2⟩:=hR.box _ m0 h;obtain ⟨e1,e2,e3,e4⟩:=xh2 hb hC k1;obtain ⟨ys,hy⟩:=xiU (q _ (xau e3));rw [xr3 e1,hy] at e4;subst e4;have h1:2*ys.length=m0.ver:=k2.ver;have h2:ys.length<=m0.cap:=k2.fits;have h3:=k2.capm;unfold maxLen at h3;refine ⟨e1,e3,?_⟩;show m0.ver<1208925819614629174706176;omega
 have Z:MExt M M':=fun x m0 h=>by
  by_cases hx:x.base=n
  . cases x with
    | b k=>exact ⟨m0,h,.inl rfl⟩
    | r k i j =>
     simp only [Id.base] at hx;subst hx;exact ⟨_,O i j m0 h,.inr (ab i j m0 h).2.2⟩
  . exact ⟨m0,by rw [Q x hx];exact h,.inl rfl⟩
 have J:∀ x m',M' x=some m'->0<m'.cap->M x=some m'/\∀ i j,x≠.r n i j:=fun x m' h h0=>by
  by_cases hx:x.base=n
  . cases x with
    | b k=>exact ⟨h,fun i j e=>by cases e⟩
    | r k i j =>
     simp only [Id.base] at hx;subst hx;cases hm:M (.r k i j) with
     | none=>rw [Y i j hm] at h;cases h
     | some m0 =>
      rw [O i j m0 hm] at h;cases h;exact absurd h0 (by simp)
  . rw [Q x hx] at h;exact ⟨h,fun i j e=>hx (by rw [e];rfl)⟩
 have hA:∀ b,b<w.heap.size->A' b->A b:=fun b _ h=>h.1
 have U:∀ (x:Id) m0,(∀ i j,x≠.r n i j)->M x=some m0->0<m0.cap->A m0.b->A' m0.b:=fun x m0 hx h h0 ag=>by
  refine ⟨ag,?_⟩;rintro ⟨i,j,m1,e1,e2,e3⟩;exact hx i j (hR.inj x (.r n i j) m0 m1 h e1 h0 e2 e3.symm)
 have ac:(H.set n ⟨bx.ver,bx.sz,rty bx.ty,bx.xs,bx.frz,true⟩)[n]?=some ⟨bx.ver,bx.sz,rty bx.ty,bx.xs,bx.frz,true⟩:=zL hn;have V:isC (rty bx.ty)=false:=xJ2 af;refine ⟨A',M',hR.rebuild (fun k=>k=n) (fun k hk _=>zX (fun e=>hk e.symm)) (fun x hx=>Q x hx) (fun x m0 hx h0 c0=>⟨rfl,U x m0 (fun i j e=>hx (by rw [e];rfl)) h0 c0⟩) (fun _ _ _=>rfl) (zd _) hA Z (fun x m' hx h=>?_) (fun x m1 x' m2 _ h1 h2 c1 c2 he=>?_) (fun b hb=>hR.lt b hb.1),
  ⟨zd _,fun _ _ _=>rfl,hA,fun b _ h ad=>⟨h,?_⟩,Z,⟨fun _ _ _=>rfl,fun x m' h h0=>.inl ⟨x,m',(J x m' h h0).1,h0,rfl⟩⟩⟩,fun b aj h=>⟨h,?_⟩⟩
 . cases x with
   | b k =>
    have hx:k=n:=hx;subst hx;have h:M (.b k)=some m':=h;obtain ⟨bx',k1,k2⟩:=hR.box _ m' h;rw [xaT,hb] at k1;cases k1;refine ⟨_,ac,k2.ver,k2.sz,by rw [xaH V];exact k2.ty,k2.capm,k2.fits,k2.ok,k2.low,k2.lt,fun h0=>?_,fun h0=>?_⟩
    . obtain ⟨c,c1,c2,c3⟩:=k2.cells h0;refine ⟨c,c1,c2,fun i j hi hj=>?_⟩
      have h4:=c3 i j hi hj;rw [xal V,xaF (bx:=⟨bx.ver,bx.sz,rty bx.ty,bx.xs,bx.frz,true⟩) V];show Rel w A' xMZ _ _;cases aa:xMN bx.ty j with
      | true =>
       obtain ⟨ys,hy⟩:=xiU (q _ (xau hi));rw [<-xr3 aa] at hy;unfold xM9 MV at h4;simp only [aa] at h4;rw [hy] at h4 |-;exact xDk hR hA hb hC hy h4 fun m0 e1 e2 e3=>e3.2 ⟨i,j,m0,e1,e2,rfl⟩
      | false =>
       unfold xM9 MV at h4;simp only [aa,ah] at h4;exact h4.mono (fun _ _ _=>rfl) (zd _) hA (MExt.refl _)
    . rw [k2.guard h0];exact ⟨U (.b k) m' (fun i j e=>by cases e) h h0,fun h=>h.1⟩
   | r k i j =>
    have hx:k=n:=hx;subst hx;cases hm:M (.r k i j) with
    | none=>rw [Y i j hm] at h;cases h
    | some m0 =>
     rw [O i j m0 hm] at h;cases h;have W:∀ {p:Prop},0<(0:Nat)->p:=fun h=>absurd h (by simp)
     exact ⟨tombB,xch ac V,rfl,rfl,rfl,zQ _,zQ _,fun y hy=>by simp [tombB] at hy,W,W,W,W⟩
 . exact hR.inj x x' m1 m2 (J x m1 h1 c1).1 (J x' m2 h2 c2).1 c1 c2 he
 . rintro ⟨i,j,m1,e1,e2,e3⟩;exact ad _ m1 e1 e2 e3
 . rintro ⟨i,j,m1,e1,e2,e3⟩;obtain ⟨rb,_,k2⟩:=hR.box _ m1 e1;have:=k2.low e2;omega
end
section
open Go.Maps Go.MapKept
def isKey (s:List UInt8) (x:AV):Bool:=match x with
 | .str k=>k==s
 | _=>false
def mapIx:List AV->List UInt8->Option Nat
 | [],_=>none
 | e::es,s=>match isKey s (e.cells.getD 0 .top) with
  | true=>some 0
  | false=>(mapIx es s).map (·+1)
def xNf (xs:List AV) (s:List UInt8):Bool:=(mapIx xs s).isSome
def xM3 (z:AV) (xs:List AV) (s:List UInt8):AV:=match mapIx xs s with
 | some i=>(xs.getD i .top).cells.getD 1 .top
 | none=>z
def xM1 (xs:List AV) (s:List UInt8) (v:AV):List AV:=match mapIx xs s with
 | some i=>xs.set i (.agg [.str s,v])
 | none=>xs++[.agg [.str s,v]]
def mapTy (t:TypeId):TypeId:=1208925819614629241815040+4294967296*t
theorem xuQ:∀ {xs:List AV} {s:List UInt8},(∀ i,i<xs.length->isKey s ((xs.getD i .top).cells.getD 0 .top)=false)->mapIx xs s=none
 | [],_,_=>rfl
 | e::es,s,h=>by
  have h0:=h 0 (by simp)
  simp only [List.getD_cons_zero] at h0;simp only [mapIx,h0];rw [xuQ fun i hi=>by simpa using h (i+1) (by simpa using hi)]
  rfl
theorem xuR:∀ {xs:List AV} {s:List UInt8} {j:Nat},j<xs.length->isKey s ((xs.getD j .top).cells.getD 0 .top)=true->(∀ i,i<j->isKey s ((xs.getD i .top).cells.getD 0 .top)=false)->mapIx xs s=some j
 | [],_,_,h,_,_=>by simp at h
 | e::es,s,0,_,h1,_=>by simp only [List.getD_cons_zero] at h1;simp only [mapIx,h1]
 | e::es,s,j+1,h,h1,h2=>by
  have h0:=h2 0 (by omega)
  simp only [List.getD_cons_zero] at h0;simp only [mapIx,h0];rw [xuR (j:=j) (by simpa using h) (by simpa using h1) fun i hi=>by simpa using h2 (i+1) (by omega)]
  rfl
theorem xs0 {s t:ByteArray} (h:s.data.toList=t.data.toList):s=t:=by
 cases s;cases t;simp only at h;congr 1;exact Array.ext' h
structure MapAt (w:World) (A:Nat->Prop) (M:Id->Option MB) (m:MB) (xs:List AV) (es:Array MapEntry) (clock:Nat):Prop where
 heap:w.heap[m.b]?=some (.map es clock)
 size:es.size=xs.length
 keys:∀ (k:Nat) (x:MapEntry),es[k]?=some x->∃ t:ByteArray,x.key=.string t/\(xs.getD k .top).cells.getD 0 .top=.str t.data.toList/\t.size<=maxLen
 vals:∀ (k:Nat) (x:MapEntry),es[k]?=some x->Rel w A M x.val ((xs.getD k .top).cells.getD 1 .top)
 apart:∀ (k l:Nat) (x y:MapEntry),es[k]?=some x->es[l]?=some y->x.key=y.key->k=l
theorem MapAt.miss {w:World} {A:Nat->Prop} {M:Id->Option MB} {m:MB} {xs:List AV} {es:Array MapEntry} {clock:Nat} (h:MapAt w A M m xs es clock) {t:ByteArray} (q:∀ x∈es.toList,x.key≠.string t):mapIx xs t.data.toList=none :=
 xuQ fun i hi=>by
  have hi':i<es.size:=by rw [h.size];exact hi
  obtain ⟨t',h1,h2,_⟩:=h.keys i es[i] (by simp [hi'])
  rw [h2];show (t'.data.toList==t.data.toList)=false;rw [beq_eq_false_iff_ne];intro e;exact q es[i] (by simp) (by rw [h1,xs0 e])
theorem MapAt.hit {w:World} {A:Nat->Prop} {M:Id->Option MB} {m:MB} {xs:List AV} {es:Array MapEntry} {clock:Nat} (h:MapAt w A M m xs es clock) {t:ByteArray} {j:Nat} {e0:MapEntry} (hj:es.toList[j]?=some e0) (hk:e0.key=.string t):mapIx xs t.data.toList=some j/\j<xs.length:=by
 have q:es[j]?=some e0:=by simpa using hj
 have hj':j<es.size:=by
  rcases zJ j es.size with h|h
  . exact h
  . simp [Array.getElem?_eq_none h] at q
 have J:j<xs.length:=by rw [<-h.size];exact hj'
 refine ⟨xuR J ?_ fun i hi=>?_,J⟩
 . obtain ⟨t',h1,h2,_⟩:=h.keys j e0 q;rw [h2];rw [hk] at h1;injection h1 with h1;rw [h1];show (t'.data.toList==t'.data.toList)=true;exact beq_self_eq_true _
 . have hi':i<es.size:=by omega
   obtain ⟨t',h1,h2,_⟩:=h.keys i es[i] (by simp [hi'])
   rw [h2];show (t'.data.toList==t.data.toList)=false;rw [beq_eq_false_iff_ne];intro e;have:=h.apart i j es[i] e0 (by simp [hi']) q (by rw [h1,hk,xs0 e])
   omega
theorem xA5 {xs:List AV} {sz k j:Nat} (q:∀ x,x∈xs->x.okElem sz=true) (hk:k<xs.length) (hj:j<sz):((xs.getD k .top).cells.getD j .top).one=true:=by
 have h:=q _ (xau hk);have h1:=xaE h;have h2:=xan h;rw [zI] at h1;exact h1 _ (xau (by omega))
theorem xzC {w:World} {A:Nat->Prop} {M:Id->Option MB} {t:ByteArray} {x:AV} (h:Rel w A M (.string t) x) (hx:x.one=true) (J:∀ id ver i j,x≠.own id ver i j) (q:∀ id ver i j,x≠.osl id ver i j):x=.str t.data.toList:=by
 generalize hv:Value.string t=v at h;cases h<;>first|(cases hv;rfl)|(cases hv;done)|(simp [AV.one] at hx;done)|(exact absurd rfl (J _ _ _ _))|(exact absurd rfl (q _ _ _ _))
theorem BoxAt.mapAt {w:World} {A:Nat->Prop} {M:Id->Option MB} {B:Nat} {id:Id} {m:MB} {bx:Box} (h:BoxAt w A M B id m bx) (hm:xMO bx.ty=true) (h0:xMN bx.ty 0=false) (h1:xMN bx.ty 1=false) (hs:bx.sz=2) (hp:bx.pm=true) (hcap:0<m.cap) :
  ∃ es clock,MapAt w A xMZ m bx.xs es clock/\m.cap=maxLen:=by
 obtain ⟨c,c1,c2,c3⟩:=h.cells hcap;have O:xMO m.ty=true:=by
  rw [<-h.ty];unfold rty;split
  . rw [hm];exact hm
  . exact hm
 unfold HoldsC at c1;rw [O] at c1;obtain ⟨es,clock,d1,d2,d3,d4,d5,d6⟩:=c1;have hsz:m.sz=2:=by rw [<-h.sz];exact hs
 have J:∀ (k:Nat) (x:MapEntry),es[k]?=some x->k<bx.xs.length:=fun k x hx=>by
  rw [<-d2];rcases zJ k es.size with h|h
  . exact h
  . simp [Array.getElem?_eq_none h] at hx
 have q:∀ (k j:Nat),k<bx.xs.length->j<2->xMN bx.ty j=false->Rel w A xMZ (c.getD (k*m.sz+j) undef) ((bx.xs.getD k .top).cells.getD j .top):=fun k j hk hj U=>by
  have h4:=c3 k j hk (by rw [hsz];exact hj)
  unfold MV xM9 at h4;simp only [U,hp] at h4;exact h4
 refine ⟨es,clock,⟨d1,d2,fun k x hx=>?_,fun k x hx=>?_,d6⟩,d3⟩
 . obtain ⟨t,ht,Q⟩:=d5 k x hx;have hk:=J k x hx;have h4:=q k 0 hk (by omega) h0
   rw [Nat.add_zero,(d4 k x hx).1,ht] at h4;exact ⟨t,ht,xzC h4 (xA5 h.ok hk (by rw [hsz];omega)) (fun id ver i j e=>by rw [e] at h4;obtain ⟨_,hh,_⟩:=Rel.own_inv h4;cases hh) (fun id ver i j e=>by rw [e] at h4;obtain ⟨_,hh,_⟩:=Rel.osl_inv h4;cases hh),Q⟩
 . have h4:=q k 1 (J k x hx) (by omega) h1
   rw [(d4 k x hx).2] at h4;exact h4
def getMap (H:List Box) (n:Nat) (ver:Nat):Option Box:=match H[n]? with
 | some bx=>if bx.ver=ver/\xMO bx.ty=true/\xMN bx.ty 0=false/\xMN bx.ty 1=false/\bx.sz=2/\bx.pm=true then some bx else none
 | none=>none
def mapNum (P:Program) (t e:TypeId):Option TypeId:=match P.underlying e with
 | some (.slice e2)=>match xML P e2 with
  | some te=>some (1208925819614629174706176+4503599627370496*t+1048576*(2+64*(te.sz+64*e2)))
  | none=>none
 | _=>some (mapTy t)
def absMakeM (P:Program) (H:List Box) (t:TypeId):Option (AV×List Box):=match P.underlying t with
 | some (.map k e)=>match P.underlying k,mapNum P t e with
  | some .string,some ty=>if xMO ty=true/\isC ty=true then some (.own H.length 0 0 0,H++[⟨0,2,ty,[],false,true⟩]) else none
  | _,_=>none
 | _=>none
def absLookM (P:Program) (H:List Box) (t:TypeId) (m k:AV) (c:Bool):Option AV:=match m,k,P.underlying t with
 | .own (.b n) ver _ _,.str s,some (.map kt et)=>match P.underlying kt,xML P et,getMap H n ver with
  | some .string,some te,some bx=>if s.length<=xNA then some (match c with
   | true=>.tuple [xM3 te.zero bx.xs s,.bool (xNf bx.xs s)]
   | false=>xM3 te.zero bx.xs s) else none
  | _,_,_=>none
 | _,_,_=>none
def absPutM (P:Program) (H:List Box) (t:TypeId) (m k v:AV):Option (List Box):=match m,k,P.underlying t with
 | .own (.b n) ver _ _,.str s,some (.map kt _)=>match P.underlying kt,getMap H n ver with
  | some .string,some bx=>if bx.frz=false/\v.one=true/\v.pure=true/\bx.xs.length<xNA/\s.length<=xNA then some (H.set n ⟨ver,2,bx.ty,xM1 bx.xs s v,false,true⟩) else none
  | _,_=>none
 | _,_,_=>none
section
variable {P : Program} {w : World} {A : Nat -> Prop} {M : Id -> Option MB} {B : Nat} {H : List Box}
theorem xtE {n ver:Nat} {bx:Box} (h:getMap H n ver=some bx):H[n]?=some bx/\bx.ver=ver/\xMO bx.ty=true/\xMN bx.ty 0=false/\xMN bx.ty 1=false/\bx.sz=2/\bx.pm=true:=by
 unfold getMap at h;split at h
 . split at h
   . rename_i hb hc;cases h;exact ⟨hb,hc⟩
   . simp at h
 . simp at h
theorem xES (hR:HR w A M B H) {v:Value} {n ver i j:Nat} {bx:Box} (h:Rel w A M v (.own (.b n) ver i j)) (hb:getMap H n ver=some bx) :
  ∃ m,M (.b n)=some m/\BoxAt w A M B (.b n) m bx/\v=.map (some m.b)/\0<m.cap:=by
 obtain ⟨O,Q,q,_⟩:=xtE hb;obtain ⟨m,hm,hv,h1,he⟩:=Rel.own_inv h;obtain ⟨bx',h2,h3⟩:=hR.box _ m hm;rw [xaT,O] at h2;cases h2;refine ⟨m,hm,h3,?_⟩;have J:xMO m.ty=true:=by
  rw [<-h3.ty];unfold rty;split
  . rw [q];exact q
  . exact q
 have h0:=he (by rw [<-Q,h3.ver])
 unfold ptrOf at h0;rw [J] at h0;cases hc:m.cap with
 | zero =>
  rw [hc] at h0;simp only at h0;rw [h0] at h1;cases h1
 | succ k =>
  rw [hc] at h0;exact ⟨h0,Nat.succ_pos k⟩
end
theorem xyj {s:List UInt8} {v:AV} (h:v.one=true):(AV.agg [.str s,v]).okElem 2=true:=by
 show (true&&(true&&(v.one&&true)))=true;rw [h];rfl
theorem xgO {P:Program} {k:TypeId} (hk:P.underlying k=some .string) {t:ByteArray} (ht:t.size<=maxLen):keyOf P k (.string t)=some (.string t.data.toList):=by
 simp [keyOf,hk,mapKey,ht]
theorem xlh {t:ByteArray} (h:t.data.toList.length<=xNA):t.size<=maxLen:=by
 rw [xnp];unfold xNA at h;unfold maxLen;omega
section
variable {P : Program} {w : World} {A : Nat -> Prop} {M : Id -> Option MB} {B : Nat} {H : List Box}
theorem xFB (hR:HR w A M B H) {o:Oper} {ρc:Operand->Value} {t:TypeId} {om ok:Operand} {c:Bool} {xm xk r:AV} (ho:o.op=.lookup t om ok c) (hm:Rel w A M (ρc om) xm) (hk:Rel w A M (ρc ok) xk) (h:absLookM P H t xm xk c=some r) :
  Writes P o ρc w A M B r H:=by
 unfold absLookM at h;split at h
 case h_2=>simp at h
 rename_i n ver i j s kt et aj;split at h
 case h_2=>simp at h
 rename_i te bx Q ah W;split at h
 case isFalse=>simp at h
 rename_i am;simp only [z6] at h;obtain ⟨m,an,ai,ab,ae⟩:=xES hR hm W;obtain ⟨ao,aq,Z,ag,ak,al,ad⟩:=xtE W;obtain ⟨es,clock,J,_⟩:=ai.mapAt Z ag ak al ad ae;obtain ⟨t0,af,ac⟩:=hk.str_inv;subst ac;have O:∀ x∈es.toList,∃ l,keyOf P kt x.key=some l:=fun x hx=>by
  obtain ⟨k,Y,rfl⟩:=zp.1 hx;simp only [Array.length_toList] at Y;obtain ⟨t',h1,_,h3⟩:=J.keys k es[k] (by simp [Y])
  exact ⟨.string t'.data.toList,by simp only [Array.getElem_toList];rw [h1];exact xgO Q h3⟩
 obtain ⟨z,hz,aa⟩:=xyQ ah w;have U:Rel w A M z te.zero:=by rw [aa];exact xcN w A M z
 have V:∃ v,(Instr.lookup t (ρc om) (ρc ok) c).run P w=.ok v w/\Rel w A M v r:=by
  rw [ab,af,<-h];rcases xCQ c (Maps.string_keyed Q) aj hz J.heap O (kl:=.string t0.data.toList) (xgO Q (xlh am)) with ⟨h1,h2⟩|⟨j0,e0,h1,h2,h3⟩
  . have q:=J.miss h2;refine ⟨_,h1,?_⟩;cases c
    . simpa [xM3,q] using U
    . simp only [xM3,xNf,q,if_true,Option.isSome];exact .tuple #[z,.bool false] _ rfl fun i hi=>by
       rcases i with _|_|i
       . exact U
       . exact .bool false
       . simp at hi;omega
  . obtain ⟨q,ap⟩:=J.hit h1 h2;have hv:=(J.vals j0 e0 (by simpa using h1)).lift M
    refine ⟨_,h3,?_⟩;cases c
    . simpa [xM3,q] using hv
    . simp only [xM3,xNf,q,if_true,Option.isSome];exact .tuple #[e0.val,.bool true] _ rfl fun i hi=>by
       rcases i with _|_|i
       . exact hv
       . exact .bool true
       . simp at hi;omega
 obtain ⟨v,h1,h2⟩:=V;exact ⟨.value v,w,A,M,v,by simp only [execOp,ho,Sem.run_bind,h1,Result.andThen_ok,Sem.run_pure],.inl rfl,Below.refl _ _,MExt.refl M,fun _ _=>Iff.rfl,fun _ _ _=>rfl,⟨fun _ _ _=>rfl,fun id m' h h0=>.inl ⟨id,m',h,h0,rfl⟩⟩,hR,h2⟩
theorem xAd {xs:List AV} {s:List UInt8} {v:AV}:xs.length<=(xM1 xs s v).length/\(xM1 xs s v).length<=xs.length+1:=by
 unfold xM1;split<;>simp
theorem xFL (hR:HR w A M B H) {o:Oper} {ρc:Operand->Value} {t:TypeId} {om ok ov:Operand} {xm xk xv:AV} {H':List Box} (ho:o.op=.mapUpdate t om ok ov\/o.op=.insert t om ok ov) (hm:Rel w A M (ρc om) xm) (hk:Rel w A M (ρc ok) xk) (hv:Rel w A M (ρc ov) xv) (h:absPutM P H t xm xk xv=some H') :
  Writes P o ρc w A M B (.tuple []) H':=by
 unfold absPutM at h;split at h
 case h_2=>simp at h
 rename_i n ver i j s kt et bj;split at h
 case h_2=>simp at h
 rename_i bx am ay;split at h
 case isFalse=>simp at h
 rename_i bh;obtain ⟨ax,ag,ap,ae,ad⟩:=bh;cases h;obtain ⟨m,af,O,ba,Z⟩:=xES hR hm ay;obtain ⟨aq,bi,aa,aj,an,a6,bc⟩:=xtE ay;obtain ⟨es,clock,V,hcap⟩:=O.mapAt aa aj an a6 bc Z;obtain ⟨t0,a8,bb⟩:=hk.str_inv;subst bb;have ak:∀ x∈es.toList,∃ l,keyOf P kt x.key=some l:=fun x hx=>by
  obtain ⟨k,a4,rfl⟩:=zp.1 hx;simp only [Array.length_toList] at a4;obtain ⟨t',h1,_,h3⟩:=V.keys k es[k] (by simp [a4])
  exact ⟨.string t'.data.toList,by simp only [Array.getElem_toList];rw [h1];exact xgO am h3⟩
 have ar:Rel w A xMZ (ρc ov) xv:=hv.pure ap;have hsz:m.sz=2:=by rw [<-O.sz];exact a6
 have hsz':bx.xs.length=es.size:=V.size.symm;have hA:A m.b:=(O.guard Z).1 ax;have aw:∃ J q,(Instr.mapUpdate t (ρc om) (ρc ok) (ρc ov)).run P w=.ok () (ChangeMaps.setBlock w m.b (.map J q))/\J.size=(xM1 bx.xs t0.data.toList xv).length /\
   (∀ (k:Nat) (x:MapEntry),J[k]?=some x->∃ t:ByteArray,x.key=.string t/\((xM1 bx.xs t0.data.toList xv).getD k .top).cells.getD 0 .top=.str t.data.toList/\t.size<=maxLen) /\
   (∀ (k:Nat) (x:MapEntry),J[k]?=some x->Rel w A xMZ x.val (((xM1 bx.xs t0.data.toList xv).getD k .top).cells.getD 1 .top)) /\
   (∀ (k l:Nat) (x y:MapEntry),J[k]?=some x->J[l]?=some y->x.key=y.key->k=l):=by
  rw [ba,a8];rcases xEM (val:=ρc ov) (Maps.string_keyed am) bj V.heap ak (kl:=.string t0.data.toList) (xgO am (xlh ad)) with ⟨h1,h2⟩|⟨j0,e0,h1,h2,J,h3,h4⟩
  . have al:=V.miss h2;have hp:xM1 bx.xs t0.data.toList xv=bx.xs++[.agg [.str t0.data.toList,xv]]:=by unfold xM1;rw [al]
    have Q:∀ (k:Nat) (x:MapEntry),(es.push ⟨.string t0,ρc ov,clock⟩)[k]?=some x->(k<es.size/\es[k]?=some x)\/(k=es.size/\x=⟨.string t0,ρc ov,clock⟩):=fun k x hx=>by
     rw [Array.getElem?_push] at hx;split at hx
     . rename_i e;simp only [z6] at hx;exact .inr ⟨e,hx.symm⟩
     . rcases zJ k es.size with h|h
       . exact .inl ⟨h,hx⟩
       . simp [Array.getElem?_eq_none h] at hx
    refine ⟨_,_,h1,by rw [hp];simp [hsz'],fun k x hx=>?_,fun k x hx=>?_,fun k l x y hx hy e=>?_⟩
    . rw [hp];rcases Q k x hx with ⟨g1,g2⟩|⟨rfl,rfl⟩
      . obtain ⟨t',a1,a2,a3⟩:=V.keys k x g2;refine ⟨t',a1,?_,a3⟩;rw [<-a2];simp [z7,zP,hsz',g1]
      . exact ⟨t0,rfl,by simp [z7,<-hsz',AV.cells],xlh ad⟩
    . rw [hp];rcases Q k x hx with ⟨g1,g2⟩|⟨rfl,rfl⟩
      . have:=V.vals k x g2;simpa [z7,zP,hsz',g1] using this
      . simpa [z7,<-hsz',AV.cells] using ar
    . rcases Q k x hx with ⟨g1,g2⟩|⟨rfl,rfl⟩<;>rcases Q l y hy with ⟨g3,g4⟩|⟨rfl,rfl⟩
      . exact V.apart k l x y g2 g4 e
      . exact absurd e (h2 x (List.mem_of_getElem? (by simpa using g2)))
      . exact absurd e.symm (h2 y (List.mem_of_getElem? (by simpa using g4)))
      . rfl
  . obtain ⟨al,az⟩:=V.hit h1 h2;have hp:xM1 bx.xs t0.data.toList xv=bx.xs.set j0 (.agg [.str t0.data.toList,xv]):=by unfold xM1;rw [al]
    have Q:∀ (k:Nat) (x:MapEntry),J[k]?=some x->(k≠j0/\es[k]?=some x)\/(k=j0/\x={ e0 with key:=.string t0,val:=ρc ov }):=fun k x hx=>by
     rw [<-Array.getElem?_toList,h3,List.getElem?_set] at hx;split at hx
     . rename_i e;subst e;split at hx
       . simp only [z6] at hx;exact .inr ⟨rfl,hx.symm⟩
       . simp at hx
     . rename_i e;exact .inl ⟨fun e'=>e e'.symm,by simpa using hx⟩
    refine ⟨_,_,h4,by rw [hp,<-Array.length_toList,h3];simp [hsz'],fun k x hx=>?_,fun k x hx=>?_,fun k l x y hx hy e=>?_⟩
    . rw [hp];rcases Q k x hx with ⟨g1,g2⟩|⟨rfl,rfl⟩
      . obtain ⟨t',a1,a2,a3⟩:=V.keys k x g2;refine ⟨t',a1,?_,a3⟩;rw [<-a2];simp [z7,List.getElem?_set,show ¬ j0=k from fun e=>g1 e.symm]
      . exact ⟨t0,rfl,by simp [z7,az,AV.cells],xlh ad⟩
    . rw [hp];rcases Q k x hx with ⟨g1,g2⟩|⟨rfl,rfl⟩
      . have:=V.vals k x g2;simpa [z7,List.getElem?_set,show ¬ j0=k from fun e=>g1 e.symm] using this
      . simpa [z7,az,AV.cells] using ar
    . have bf:es[j0]?=some e0:=by simpa using h1
      have au:∀ (k:Nat) (x:MapEntry),J[k]?=some x->∃ y:MapEntry,es[k]?=some y/\y.key=x.key:=fun k x hx=>by
       rcases Q k x hx with ⟨g1,g2⟩|⟨rfl,rfl⟩
       . exact ⟨x,g2,rfl⟩
       . exact ⟨e0,bf,h2⟩
      obtain ⟨x',a1,a2⟩:=au k x hx;obtain ⟨y',b1,b2⟩:=au l y hy;exact V.apart k l x' y' a1 b1 (by rw [a2,b2,e])
 obtain ⟨J,q,r1,r2,r3,r4,r5⟩:=aw;have bk:=xAd (xs:=bx.xs) (s:=t0.data.toList) (v:=xv);have a5:(ChangeMaps.setBlock w m.b (.map J q)).heap[m.b]?=some (.map J q):=by
  simp [ChangeMaps.setBlock,O.lt Z]
 have Y:∀ b,b≠m.b->(ChangeMaps.setBlock w m.b (.map J q)).heap[b]?=w.heap[b]?:=fun b hb=>by
  simp [ChangeMaps.setBlock,Array.getElem?_setIfInBounds,Ne.symm hb]
 have ab:(ChangeMaps.setBlock w m.b (.map J q)).heap.size=w.heap.size:=by simp [ChangeMaps.setBlock]
 have W:∀ b,b<w.heap.size->¬ A b->(ChangeMaps.setBlock w m.b (.map J q)).heap[b]?=w.heap[b]?:=fun b _ hb=>Y b fun e=>hb (e▸hA)
 have ai:n<H.length:=xbO aq;have hR':HR (ChangeMaps.setBlock w m.b (.map J q)) A M B (H.set n ⟨ver,2,bx.ty,xM1 bx.xs t0.data.toList xv,false,true⟩):=by
  refine hR.rebuild (fun k=>k=n) (fun k hk _=>zX (fun e=>hk e.symm)) (fun _ _=>rfl) (fun x m0 hx h0 c0=>⟨Y _ fun e=>hx ?_,fun h=>h⟩) W (by rw [ab];exact zd _) (fun _ _ h=>h) (MExt.refl M) (fun x m0 hx h0=>?_) (fun x m1 x' m2 _ h1 h2 c1 c2 he=>hR.inj x x' m1 m2 h1 h2 c1 c2 he) (fun b hb=>by rw [ab];exact hR.lt b hb)
  . have:=hR.inj x (.b n) m0 m h0 af c0 Z e;rw [this];rfl
  . cases x with
    | b k =>
     have hx:k=n:=hx;subst hx;rw [af] at h0;cases h0;have bg:xMO m.ty=true:=by
      rw [<-O.ty];unfold rty;split
      . rw [aa];exact aa
      . exact aa
     refine ⟨⟨ver,2,bx.ty,xM1 bx.xs t0.data.toList xv,false,true⟩,by rw [xaT];exact zL ai,bi.symm.trans O.ver,hsz.symm,O.ty,O.capm,?_,fun y hy=>?_,O.low,fun h0=>by rw [ab];exact O.lt h0,fun h0=>?_,fun _=>⟨fun _=>hA,fun _=>rfl⟩⟩
     . show (xM1 bx.xs t0.data.toList xv).length<=m.cap;rw [hcap];unfold xNA at ae;unfold maxLen;omega
     . rw [hsz];have U:(AV.agg [.str t0.data.toList,xv]).okElem 2=true:=xyj ag;have hy:y∈xM1 bx.xs t0.data.toList xv:=hy;unfold xM1 at hy;split at hy
       . rcases List.mem_or_eq_of_mem_set hy with hy|rfl
         . rw [<-hsz];exact O.ok y hy
         . exact U
       . rcases zG.1 hy with hy|hy
         . rw [<-hsz];exact O.ok y hy
         . simp only [zv] at hy;subst hy;exact U
     . let c':Array Value:=Array.ofFn (n:=maxLen*2) fun k=>match J[k.val / 2]? with
        | some x=>if k.val % 2=0 then x.key else x.val
        | none=>undef
       have bm:J.size<=maxLen:=by
        rw [r2];unfold xNA at ae;unfold maxLen;omega
       have a7:∀ (k:Nat) (x:MapEntry),J[k]?=some x->k<J.size:=fun k x hx=>by
        rcases zJ k J.size with h|h
        . exact h
        . simp [Array.getElem?_eq_none h] at hx
       have hc':∀ (k:Nat) (x:MapEntry),J[k]?=some x->c'.getD (k*m.sz) undef=x.key/\c'.getD (k*m.sz+1) undef=x.val:=fun k x hx=>by
        have hk:=a7 k x hx;rw [hsz];have e1:k*2<maxLen*2:=by omega
        have e2:k*2+1<maxLen*2:=by omega
        constructor
        . rw [zu,Array.getElem?_ofFn,dif_pos e1];simp only [zh,Nat.mul_div_cancel _ (by omega:0<2),hx,Nat.mul_mod_left,if_true]
        . rw [zu,Array.getElem?_ofFn,dif_pos e2];have d1:(k*2+1) / 2=k:=by omega
          have d2:¬ (k*2+1) % 2=0:=by omega
          simp only [zh,d1,hx,d2,if_false]
       refine ⟨c',?_,by rw [hcap,hsz];exact Array.size_ofFn,fun i j hi hj=>?_⟩
       . unfold HoldsC;rw [bg];exact ⟨J,q,a5,r2,hcap,hc',fun k x hx=>by obtain ⟨t',a1,_,a3⟩:=r3 k x hx;exact ⟨t',a1,a3⟩,r5⟩
       . have hi':i<J.size:=by rw [r2];exact hi
         obtain ⟨x,hx⟩:∃ x,J[i]?=some x:=⟨J[i],by simp [hi']⟩
         rw [hsz] at hj;have ad:∀ j,j<2->xMN bx.ty j=false:=fun j hj=>by
          rcases j with _|_|j
          . exact aj
          . exact an
          . omega
         unfold MV xM9;simp only [ad j hj];show Rel _ A xMZ _ _;have ao:∀ {v:Value} {x:AV},Rel w A xMZ v x->Rel (ChangeMaps.setBlock w m.b (.map J q)) A xMZ v x:=fun h=>h.mono W (by rw [ab];exact zd _) (fun _ _ h=>h) (MExt.refl _)
         rcases j with _|_|j
         . rw [Nat.add_zero,(hc' i x hx).1];obtain ⟨t',a1,a2,_⟩:=r3 i x hx;show Rel _ A xMZ _ (((xM1 bx.xs t0.data.toList xv).getD i .top).cells.getD 0 .top);rw [a1,a2];exact .str t'
         . rw [(hc' i x hx).2];exact ao (r4 i x hx)
         . omega
    | r k i' j' =>
     have hx:k=n:=hx;subst hx;obtain ⟨rb,k1,k2⟩:=hR.box _ m0 h0;have a0:isC bx.ty=true:=by
      cases hc:isC bx.ty with
      | true=>rfl
      | false=>rw [xas hc] at aa;cases aa
     obtain ⟨e2,e3,e4,e5⟩:=xh2 aq a0 k1;have bn:2<=j':=by
      rcases j' with _|_|j'
      . rw [aj] at e2;cases e2
      . rw [an] at e2;cases e2
      . omega
     have ah:∀ (xs:List AV),(∀ x,x∈xs->x.okElem 2=true)->(xs.getD i' .top).cells.getD j' .top=.top:=fun xs a9=>by
      rcases zJ i' xs.length with h|h
      . have:=xan (a9 _ (xau h));rw [z7 (l:=(xs.getD i' .top).cells),zz (by omega)];rfl
      . have:xs.getD i' .top=.top:=by rw [z7,zz h];rfl
        rw [this,z7,zz (by simp [AV.cells];omega)];rfl
     have ac:∀ x,x∈bx.xs->x.okElem 2=true:=fun x hx=>by rw [<-hsz];exact O.ok x hx
     refine ⟨rb,?_,k2.mono (fun be=>Y _ fun e=>?_) W (by rw [ab];exact zd _) (fun _ _ h=>h) k2.guard (MExt.refl M)⟩
     . rw [xem (zL ai) (by exact a0) (by exact e2) rfl (by show i'<(xM1 bx.xs t0.data.toList xv).length;omega)]
       rw [e5,ah bx.xs ac];have U:((xM1 bx.xs t0.data.toList xv).getD i' .top).cells.getD j' .top=.top:=ah _ fun y hy=>by
        have U:(AV.agg [.str t0.data.toList,xv]).okElem 2=true:=xyj ag;unfold xM1 at hy;split at hy
        . rcases List.mem_or_eq_of_mem_set hy with hy|rfl
          . exact ac y hy
          . exact U
        . rcases zG.1 hy with hy|hy
          . exact ac y hy
          . simp only [zv] at hy;subst hy;exact U
       have e6:xNc ⟨ver,2,bx.ty,xM1 bx.xs t0.data.toList xv,false,true⟩ .top=xNc bx .top:=by simp [xNc,ax]
       exact congrArg some ((congrArg (xNc ⟨ver,2,bx.ty,xM1 bx.xs t0.data.toList xv,false,true⟩) U).trans e6)
     . have:=hR.inj _ (.b k) m0 m h0 af be Z e;cases this
 refine ⟨.skip,ChangeMaps.setBlock w m.b (.map J q),A,M,undef,?_,.inr ⟨rfl,rfl⟩,⟨rfl,rfl,rfl,by rw [ab];exact zd _,fun k hk=>Y k fun e=>by have:=O.low Z;omega⟩,MExt.refl M,fun _ _=>Iff.rfl,W,⟨fun b _ hb=>Y b fun e=>hb (.b n) m af Z e.symm,fun id m' h h0=>.inl ⟨id,m',h,h0,rfl⟩⟩,hR',.tuple #[] [] rfl (by simp)⟩
 rcases ho with ho|ho<;>simp only [execOp,ho,Sem.run_bind,r1,Result.andThen_ok,Sem.run_pure]
def getMapR (H:List Box) (n:Nat) (ver:Nat):Option Box:=match H[n]? with
 | some bx=>if bx.ver=ver/\xMO bx.ty=true/\xMN bx.ty 0=false/\xMN bx.ty 1=true/\bx.sz=2/\bx.pm=true then some bx else none
 | none=>none
theorem xnX {H:List Box} {n ver:Nat} {bx:Box} (h:getMapR H n ver=some bx):H[n]?=some bx/\bx.ver=ver/\xMO bx.ty=true/\xMN bx.ty 0=false/\xMN bx.ty 1=true/\bx.sz=2/\bx.pm=true:=by
 unfold getMapR at h;split at h
 . split at h
   . rename_i hb hc;cases h;exact ⟨hb,hc⟩
   . simp at h
 . simp at h
structure MapKs (w:World) (m:MB) (xs:List AV) (es:Array MapEntry) (clock:Nat):Prop where
 heap:w.heap[m.b]?=some (.map es clock)
 size:es.size=xs.length
 keys:∀ (k:Nat) (x:MapEntry),es[k]?=some x->∃ t:ByteArray,x.key=.string t/\(xs.getD k .top).cells.getD 0 .top=.str t.data.toList/\t.size<=maxLen
 apart:∀ (k l:Nat) (x y:MapEntry),es[k]?=some x->es[l]?=some y->x.key=y.key->k=l
theorem MapKs.miss {w:World} {m:MB} {xs:List AV} {es:Array MapEntry} {clock:Nat} (h:MapKs w m xs es clock) {t:ByteArray} (q:∀ x∈es.toList,x.key≠.string t):mapIx xs t.data.toList=none :=
 xuQ fun i hi=>by
  have hi':i<es.size:=by rw [h.size];exact hi
  obtain ⟨t',h1,h2,_⟩:=h.keys i es[i] (by simp [hi'])
  rw [h2];show (t'.data.toList==t.data.toList)=false;rw [beq_eq_false_iff_ne];intro e;exact q es[i] (by simp) (by rw [h1,xs0 e])
theorem MapKs.hit {w:World} {m:MB} {xs:List AV} {es:Array MapEntry} {clock:Nat} (h:MapKs w m xs es clock) {t:ByteArray} {j:Nat} {e0:MapEntry} (hj:es.toList[j]?=some e0) (hk:e0.key=.string t):mapIx xs t.data.toList=some j/\j<xs.length:=by
 have q:es[j]?=some e0:=by simpa using hj
 have hj':j<es.size:=by
  rcases zJ j es.size with h|h
  . exact h
  . simp [Array.getElem?_eq_none h] at q
 have J:j<xs.length:=by rw [<-h.size];exact hj'
 refine ⟨xuR J ?_ fun i hi=>?_,J⟩
 . obtain ⟨t',h1,h2,_⟩:=h.keys j e0 q;rw [h2];rw [hk] at h1;injection h1 with h1;rw [h1];show (t'.data.toList==t'.data.toList)=true;exact beq_self_eq_true _
 . have hi':i<es.size:=by omega
   obtain ⟨t',h1,h2,_⟩:=h.keys i es[i] (by simp [hi'])
   rw [h2];show (t'.data.toList==t.data.toList)=false;rw [beq_eq_false_iff_ne];intro e;have:=h.apart i j es[i] e0 (by simp [hi']) q (by rw [h1,hk,xs0 e])
   omega
theorem xuK {t:TypeId} (h:xMO t=true):xMO (rty t)=true:=by
 unfold rty;split
 . rw [h];exact h
 . exact h
theorem BoxAt.mapKs {w:World} {A:Nat->Prop} {M:Id->Option MB} {B:Nat} {id:Id} {m:MB} {bx:Box} (h:BoxAt w A M B id m bx) (hm:xMO bx.ty=true) (h0:xMN bx.ty 0=false) (hs:bx.sz=2) (hp:bx.pm=true) (hcap:0<m.cap) :
  ∃ es clock,MapKs w m bx.xs es clock/\m.cap=maxLen/\∀ (k:Nat) (x:MapEntry),es[k]?=some x->Rel w A (MV M bx 1) x.val (xM9 id.base k 1 bx.ty ((bx.xs.getD k .top).cells.getD 1 .top)):=by
 obtain ⟨c,c1,c2,c3⟩:=h.cells hcap;have J:xMO m.ty=true:=by rw [<-h.ty];exact xuK hm
 unfold HoldsC at c1;rw [J] at c1;obtain ⟨es,clock,d1,d2,d3,d4,d5,d6⟩:=c1;have hsz:m.sz=2:=by rw [<-h.sz];exact hs
 have q:∀ (k:Nat) (x:MapEntry),es[k]?=some x->k<bx.xs.length:=fun k x hx=>by
  rw [<-d2];rcases zJ k es.size with h|h
  . exact h
  . simp [Array.getElem?_eq_none h] at hx
 refine ⟨es,clock,⟨d1,d2,fun k x hx=>?_,d6⟩,d3,fun k x hx=>?_⟩
 . obtain ⟨t,ht,O⟩:=d5 k x hx;have hk:=q k x hx;have h4:=c3 k 0 hk (by rw [hsz];omega)
   unfold MV xM9 at h4;simp only [h0,hp] at h4;rw [Nat.add_zero,(d4 k x hx).1,ht] at h4;exact ⟨t,ht,xzC h4 (xA5 h.ok hk (by rw [hsz];omega)) (fun id ver i j e=>by rw [e] at h4;obtain ⟨_,hh,_⟩:=Rel.own_inv h4;cases hh) (fun id ver i j e=>by rw [e] at h4;obtain ⟨_,hh,_⟩:=Rel.osl_inv h4;cases hh),O⟩
 . have h4:=c3 k 1 (q k x hx) (by rw [hsz];omega)
   rw [(d4 k x hx).2] at h4;exact h4
def absLookR (P:Program) (H:List Box) (t:TypeId) (m k:AV) (c:Bool):Option AV:=match m,k,P.underlying t with
 | .own (.b n) ver _ _,.str s,some (.map kt et)=>match P.underlying kt,xML P et,getMapR H n ver with
  | some .string,some te,some bx=>if s.length<=xNA then some (match mapIx bx.xs s with
   | some i=>match c with
    | true=>.tuple [xNQ n i 1 ((bx.xs.getD i .top).cells.getD 1 .top),.bool true]
    | false=>xNQ n i 1 ((bx.xs.getD i .top).cells.getD 1 .top)
   | none=>match c with
    | true=>.tuple [te.zero,.bool false]
    | false=>te.zero) else none
  | _,_,_=>none
 | _,_,_=>none
def deadR (xs:List AV) (s:List UInt8) (n:Nat):Bool:=match mapIx xs s with
 | some i=>match deadLen ((xs.getD i .top).cells.getD 1 .top) with
  | some l0=>decide (l0<n)
  | none=>false
 | none=>true
def absPutR (P:Program) (H:List Box) (t:TypeId) (m k v:AV):Option (List Box):=match m,k,v,P.underlying t with
 | .own (.b n) ver _ _,.str s,.osl (.b id) ver2 off len,some (.map kt _)=>match P.underlying kt,getMapR H n ver,xMP H (.b id) ver2 with
  | some .string,some bx,some b2=>if bx.frz=false/\b2.frz=false/\b2.pm=true/\isC b2.ty=false/\b2.ty=rowTy bx.ty/\off=0/\len=b2.xs.length/\bx.xs.length<xNA/\s.length<=xNA/\deadR bx.xs s len=true then
   some ((H.set id ⟨ver2+1,b2.sz,b2.ty,[],false,true⟩).set n ⟨ver,2,bx.ty,xM1 bx.xs s (.list b2.sz b2.xs),false,true⟩) else none
  | _,_,_=>none
 | _,_,_,_=>none
theorem xuP:∀ {xs:List AV} {s:List UInt8} {i:Nat},mapIx xs s=some i->i<xs.length
 | [],s,i,h=>by simp [mapIx] at h
 | e::es,s,i,h=>by
  simp only [mapIx] at h;split at h
  . cases h;simp
  . cases hm:mapIx es s with
    | none=>rw [hm] at h;simp at h
    | some j =>
     rw [hm] at h;simp only [Option.map_some,z6] at h;have:=xuP hm;subst h;simp;omega
def putIx (xs:List AV) (s:List UInt8):Nat:=match mapIx xs s with
 | some i=>i
 | none=>xs.length
theorem xuS {xs:List AV} {s:List UInt8} {v:AV} (k:Nat):(xM1 xs s v).getD k .top=if k=putIx xs s then .agg [.str s,v] else xs.getD k .top:=by
 unfold xM1 putIx;cases h:mapIx xs s with
 | some i =>
  have:=xuP h;by_cases hk:k=i
  . subst hk;simp [z7,this]
  . simp [z7,List.getElem?_set,hk,show ¬ i=k from fun e=>hk e.symm]
 | none =>
  by_cases hk:k=xs.length
  . subst hk;simp [z7]
  . simp only [hk,if_false];rcases zJ k xs.length with g|g
    . simp [z7,zP,g]
    . rw [z7,z7,zz (by simp;omega),zz g]
theorem xIK {xs:List AV} {s:List UInt8} {v:AV}:putIx xs s<(xM1 xs s v).length:=by
 unfold xM1 putIx;cases h:mapIx xs s with
 | some i=>have:=xuP h;simpa using this
 | none=>simp
section
variable {P : Program} {w : World} {A : Nat -> Prop} {M : Id -> Option MB} {B : Nat} {H : List Box}
theorem xCx (hR:HR w A M B H) {v:Value} {n ver i j:Nat} {bx:Box} (h:Rel w A M v (.own (.b n) ver i j)) (hb:getMapR H n ver=some bx) :
  ∃ m,M (.b n)=some m/\BoxAt w A M B (.b n) m bx/\v=.map (some m.b)/\0<m.cap:=by
 obtain ⟨O,Q,q,_⟩:=xnX hb;obtain ⟨m,hm,hv,h1,he⟩:=Rel.own_inv h;obtain ⟨bx',h2,h3⟩:=hR.box _ m hm;rw [xaT,O] at h2;cases h2;refine ⟨m,hm,h3,?_⟩;have J:xMO m.ty=true:=by rw [<-h3.ty];exact xuK q
 have h0:=he (by rw [<-Q,h3.ver])
 unfold ptrOf at h0;rw [J] at h0;cases hc:m.cap with
 | zero =>
  rw [hc] at h0;simp only at h0;rw [h0] at h1;cases h1
 | succ k =>
  rw [hc] at h0;exact ⟨h0,Nat.succ_pos k⟩
theorem xAZ (hR:HR w A M B H) {ρc:Operand->Value} {t:TypeId} {om ok:Operand} {c:Bool} {xm xk r:AV} (hm:Rel w A M (ρc om) xm) (hk:Rel w A M (ρc ok) xk) (h:absLookR P H t xm xk c=some r) :
  ∃ v,(Instr.lookup t (ρc om) (ρc ok) c).run P w=.ok v w/\Rel w A M v r:=by
 unfold absLookR at h;split at h
 case h_2=>simp at h
 rename_i n ver i j s kt et ak;split at h
 case h_2=>simp at h
 rename_i te bx Q ah W;split at h
 case isFalse=>simp at h
 rename_i am;simp only [z6] at h;obtain ⟨m,an,ai,ab,ae⟩:=xCx hR hm W;obtain ⟨ao,aq,Z,ag,aj,al,ad⟩:=xnX W;obtain ⟨es,clock,q,_,U⟩:=ai.mapKs Z ag al ad ae;obtain ⟨t0,af,ac⟩:=hk.str_inv;subst ac;have J:∀ x∈es.toList,∃ l,keyOf P kt x.key=some l:=fun x hx=>by
  obtain ⟨k,Y,rfl⟩:=zp.1 hx;simp only [Array.length_toList] at Y;obtain ⟨t',h1,_,h3⟩:=q.keys k es[k] (by simp [Y])
  exact ⟨.string t'.data.toList,by simp only [Array.getElem_toList];rw [h1];exact xgO Q h3⟩
 obtain ⟨z,hz,aa⟩:=xyQ ah w;have V:Rel w A M z te.zero:=by rw [aa];exact xcN w A M z
 rw [ab,af,<-h];rcases xCQ c (Maps.string_keyed Q) ak hz q.heap J (kl:=.string t0.data.toList) (xgO Q (xlh am)) with ⟨h1,h2⟩|⟨j0,e0,h1,h2,h3⟩
 . have O:=q.miss h2;refine ⟨_,h1,?_⟩;rw [O];cases c
   . simpa using V
   . simp only [if_true];exact .tuple #[z,.bool false] _ rfl fun i hi=>by
      rcases i with _|_|i
      . exact V
      . exact .bool false
      . simp at hi;omega
 . obtain ⟨O,ap⟩:=q.hit h1 h2;have hv:=(U j0 e0 (by simpa using h1)).unmv
   unfold xM9 at hv;rw [aj] at hv;change Rel w A M e0.val (xNQ n j0 1 ((bx.xs.getD j0 .top).cells.getD 1 .top)) at hv;refine ⟨_,h3,?_⟩;rw [O];cases c
   . simpa using hv
   . simp only [if_true];exact .tuple #[e0.val,.bool true] _ rfl fun i hi=>by
      rcases i with _|_|i
      . exact hv
      . exact .bool true
      . simp at hi;omega
theorem xDY (hR:HR w A M B H) {o:Oper} {ρc:Operand->Value} {t:TypeId} {om ok:Operand} {c:Bool} {xm xk r:AV} (ho:o.op=.lookup t om ok c) (hm:Rel w A M (ρc om) xm) (hk:Rel w A M (ρc ok) xk) (h:absLookR P H t xm xk c=some r) :
  Writes P o ρc w A M B r H:=by
 obtain ⟨v,h1,h2⟩:=xAZ hR hm hk h;exact ⟨.value v,w,A,M,v,by simp only [execOp,ho,Sem.run_bind,h1,Result.andThen_ok,Sem.run_pure],.inl rfl,Below.refl _ _,MExt.refl M,fun _ _=>Iff.rfl,fun _ _ _=>rfl,⟨fun _ _ _=>rfl,fun id m' h h0=>.inl ⟨id,m',h,h0,rfl⟩⟩,hR,h2⟩
theorem MapKs.put {m:MB} {xs:List AV} {es:Array MapEntry} {clock:Nat} (Q:MapKs w m xs es clock) {t kt et:TypeId} (ab:P.underlying t=some (.map kt et)) (W:P.underlying kt=some .string) {t0:ByteArray} (Y:t0.data.toList.length<=xNA) (val:Value) (v:AV) :
  ∃ O clock',(Instr.mapUpdate t (.map (some m.b)) (.string t0) val).run P w=.ok () (ChangeMaps.setBlock w m.b (.map O clock'))/\O.size=(xM1 xs t0.data.toList v).length /\
   (∀ (k:Nat) (x:MapEntry),O[k]?=some x->∃ t:ByteArray,x.key=.string t/\((xM1 xs t0.data.toList v).getD k .top).cells.getD 0 .top=.str t.data.toList/\t.size<=maxLen) /\
   (∀ (k l:Nat) (x y:MapEntry),O[k]?=some x->O[l]?=some y->x.key=y.key->k=l) /\
   (∀ (k:Nat) (x:MapEntry),O[k]?=some x->(k≠putIx xs t0.data.toList/\es[k]?=some x)\/(k=putIx xs t0.data.toList/\x.val=val)):=by
 have hsz':xs.length=es.size:=Q.size.symm;have V:∀ x∈es.toList,∃ l,keyOf P kt x.key=some l:=fun x hx=>by
  obtain ⟨k,aa,rfl⟩:=zp.1 hx;simp only [Array.length_toList] at aa;obtain ⟨t',h1,_,h3⟩:=Q.keys k es[k] (by simp [aa])
  exact ⟨.string t'.data.toList,by simp only [Array.getElem_toList];rw [h1];exact xgO W h3⟩
 rcases xEM (val:=val) (Maps.string_keyed W) ab Q.heap V (kl:=.string t0.data.toList) (xgO W (xlh Y)) with ⟨h1,h2⟩|⟨j0,e0,h1,h2,O,h3,h4⟩
 . have U:=Q.miss h2;have J:putIx xs t0.data.toList=xs.length:=by unfold putIx;rw [U]
   have hp:(xM1 xs t0.data.toList v).length=xs.length+1:=by unfold xM1;rw [U];simp
   have q:∀ (k:Nat) (x:MapEntry),(es.push ⟨.string t0,val,clock⟩)[k]?=some x->(k<es.size/\es[k]?=some x)\/(k=es.size/\x=⟨.string t0,val,clock⟩):=fun k x hx=>by
    rw [Array.getElem?_push] at hx;split at hx
    . rename_i e;simp only [z6] at hx;exact .inr ⟨e,hx.symm⟩
    . rcases zJ k es.size with h|h
      . exact .inl ⟨h,hx⟩
      . simp [Array.getElem?_eq_none h] at hx
   refine ⟨_,_,h1,by rw [hp];simp [hsz'],fun k x hx=>?_,fun k l x y hx hy e=>?_,fun k x hx=>?_⟩
   . rw [xuS,J];rcases q k x hx with ⟨g1,g2⟩|⟨rfl,rfl⟩
     . obtain ⟨t',a1,a2,a3⟩:=Q.keys k x g2;exact ⟨t',a1,by rw [if_neg (by omega)];exact a2,a3⟩
     . exact ⟨t0,rfl,by rw [if_pos hsz'.symm];rfl,xlh Y⟩
   . rcases q k x hx with ⟨g1,g2⟩|⟨rfl,rfl⟩<;>rcases q l y hy with ⟨g3,g4⟩|⟨rfl,rfl⟩
     . exact Q.apart k l x y g2 g4 e
     . exact absurd e (h2 x (List.mem_of_getElem? (by simpa using g2)))
     . exact absurd e.symm (h2 y (List.mem_of_getElem? (by simpa using g4)))
     . rfl
   . rcases q k x hx with ⟨g1,g2⟩|⟨rfl,rfl⟩
     . exact .inl ⟨by rw [J];omega,g2⟩
     . exact .inr ⟨by rw [J];exact hsz'.symm,rfl⟩
 . obtain ⟨U,ad⟩:=Q.hit h1 h2;have J:putIx xs t0.data.toList=j0:=by unfold putIx;rw [U]
   have hp:(xM1 xs t0.data.toList v).length=xs.length:=by unfold xM1;rw [U];simp
   have q:∀ (k:Nat) (x:MapEntry),O[k]?=some x->(k≠j0/\es[k]?=some x)\/(k=j0/\x={ e0 with key:=.string t0,val:=val }):=fun k x hx=>by
    rw [<-Array.getElem?_toList,h3,List.getElem?_set] at hx;split at hx
    . rename_i e;subst e;split at hx
      . simp only [z6] at hx;exact .inr ⟨rfl,hx.symm⟩
      . simp at hx
    . rename_i e;exact .inl ⟨fun e'=>e e'.symm,by simpa using hx⟩
   refine ⟨_,_,h4,by rw [hp,<-Array.length_toList,h3];simp [hsz'],fun k x hx=>?_,fun k l x y hx hy e=>?_,fun k x hx=>?_⟩
   . rw [xuS,J];rcases q k x hx with ⟨g1,g2⟩|⟨rfl,rfl⟩
     . obtain ⟨t',a1,a2,a3⟩:=Q.keys k x g2;exact ⟨t',a1,by rw [if_neg g1];exact a2,a3⟩
     . exact ⟨t0,rfl,by rw [if_pos rfl];rfl,xlh Y⟩
   . have ac:es[j0]?=some e0:=by simpa using h1
     have Z:∀ (k:Nat) (x:MapEntry),O[k]?=some x->∃ y:MapEntry,es[k]?=some y/\y.key=x.key:=fun k x hx=>by
      rcases q k x hx with ⟨g1,g2⟩|⟨rfl,rfl⟩
      . exact ⟨x,g2,rfl⟩
      . exact ⟨e0,ac,h2⟩
     obtain ⟨x',a1,a2⟩:=Z k x hx;obtain ⟨y',b1,b2⟩:=Z l y hy;exact Q.apart k l x' y' a1 b1 (by rw [a2,b2,e])
   . rcases q k x hx with ⟨g1,g2⟩|⟨rfl,rfl⟩
     . exact .inl ⟨by rw [J];exact g1,g2⟩
     . exact .inr ⟨J.symm,rfl⟩
end
section
variable {P : Program} {w : World} {A : Nat -> Prop} {M : Id -> Option MB} {B : Nat} {H : List Box}
theorem xFN (hR:HR w A M B H) {o:Oper} {ρc:Operand->Value} {t:TypeId} {om ok ov:Operand} {xm xk xv:AV} {H':List Box} (ho:o.op=.mapUpdate t om ok ov\/o.op=.insert t om ok ov) (hm:Rel w A M (ρc om) xm) (hk:Rel w A M (ρc ok) xk) (hv:Rel w A M (ρc ov) xv) (h:absPutR P H t xm xk xv=some H') :
  Writes P o ρc w A M B (.tuple []) H':=by
 unfold absPutR at h;split at h
 case h_2=>simp at h
 rename_i n ver i j s id aa off len kt et cm;split at h
 case h_2=>simp at h
 rename_i bx b2 b5 bm az;split at h
 case isFalse=>simp at h
 rename_i cj;obtain ⟨bi,bj,bq,ag,bk,rfl,rfl,ba,ch,U⟩:=cj;cases h;obtain ⟨m,a8,Z,b9,am⟩:=xCx hR hm bm;obtain ⟨ar,cl,bg,bf,an,bt,cb⟩:=xnX bm;obtain ⟨es,clock,cg,hcap,bb⟩:=Z.mapKs bg bf bt cb am;obtain ⟨t0,bz,ca⟩:=hk.str_inv;subst ca;obtain ⟨m2,a2,al,V,bu,cq,cp⟩:=xjy hR hv az;obtain ⟨ae,ay⟩:=xaw az;rw [xaT] at ae;have ao:isC bx.ty=true:=xfi an;have hne:id≠n:=fun e=>by
  subst e;rw [ar] at ae;cases ae;rw [ag] at ao;cases ao
 have hsz:m.sz=2:=by rw [<-Z.sz];exact bt
 have hA:A m.b:=(Z.guard am).1 bi;have ci:xMO m.ty=true:=by rw [<-Z.ty];exact xuK bg
 obtain ⟨J,q,r1,r2,r3,r5,r4⟩:=cg.put cm b5 ch (ρc ov) (.list b2.sz b2.xs);generalize Y:putIx bx.xs t0.data.toList=ix at r4;have bo:(ChangeMaps.setBlock w m.b (.map J q)).heap[m.b]?=some (.map J q):=by
  simp [ChangeMaps.setBlock,Z.lt am]
 have ak:∀ b,b≠m.b->(ChangeMaps.setBlock w m.b (.map J q)).heap[b]?=w.heap[b]?:=fun b hb=>by
  simp [ChangeMaps.setBlock,Array.getElem?_setIfInBounds,Ne.symm hb]
 have af:(ChangeMaps.setBlock w m.b (.map J q)).heap.size=w.heap.size:=by simp [ChangeMaps.setBlock]
 have W:∀ b,b<w.heap.size->¬ A b->(ChangeMaps.setBlock w m.b (.map J q)).heap[b]?=w.heap[b]?:=fun b _ hb=>ak b fun e=>hb (e▸hA)
 have bp:n<H.length:=xbO ar;have b7:id<H.length:=xbO ae;let M':Id->Option MB:=fun x=>if x=.b id then some ⟨m2.b,m2.ver+1,m2.sz,0,m2.ty⟩ else if x=.r n ix 1 then some ⟨m2.b,2*b2.xs.length,m2.sz,m2.cap,m2.ty⟩ else M x
 have ap:M' (.b id)=some ⟨m2.b,m2.ver+1,m2.sz,0,m2.ty⟩:=by simp [M']
 have ai:M' (.r n ix 1)=some ⟨m2.b,2*b2.xs.length,m2.sz,m2.cap,m2.ty⟩:=by simp [M']
 have ah:∀ x:Id,x≠.b id->x≠.r n ix 1->M' x=M x:=fun x h1 h2=>by simp [M',h1,h2]
 have be:∀ m0,M (.r n ix 1)=some m0->m0.ver<2*b2.xs.length:=fun m0 h0=>by
  obtain ⟨rb,k1,k2⟩:=hR.box _ m0 h0;obtain ⟨k4,k5,k6,k7⟩:=xh2 ar ao k1;have k8:=k2.ver;rw [k7] at k8;unfold putIx at Y;unfold deadR at U;cases hi:mapIx bx.xs t0.data.toList with
  | none =>
   rw [hi] at Y;simp only at Y;omega
  | some i =>
   rw [hi] at Y U;simp only at Y U;subst Y;unfold deadLen at U;split at U
   . rename_i l0 a0;split at a0
     . rename_i kk l hl;simp only [z6] at a0;simp only [zl] at U;rw [hl] at k8;simp only [xNc,rowLen] at k8;omega
     . simp at a0
   . simp at U
 have ac:MExt M M':=fun x m0 h0=>by
  by_cases e1:x=.b id
  . subst e1;rw [al] at h0;cases h0;exact ⟨_,ap,.inr (Nat.lt_succ_self _)⟩
  . by_cases e2:x=.r n ix 1
    . subst e2;exact ⟨_,ai,.inr (be m0 h0)⟩
    . exact ⟨m0,by rw [ah x e1 e2];exact h0,.inl rfl⟩
 have aq:∀ x m',M' x=some m'->0<m'.cap->∃ y m0,M y=some m0/\m0.b=m'.b/\m0.cap=m'.cap/\(x=.r n ix 1/\y=.b id\/x=y/\y≠.b id/\y≠.r n ix 1):=fun x m' h h0=>by
  by_cases e1:x=.b id
  . subst e1;rw [ap] at h;cases h;exact absurd h0 (by simp)
  . by_cases e2:x=.r n ix 1
    . subst e2;rw [ai] at h;cases h;exact ⟨_,m2,al,rfl,rfl,.inl ⟨rfl,rfl⟩⟩
    . rw [ah x e1 e2] at h;exact ⟨x,m',h,rfl,rfl,.inr ⟨rfl,e1,e2⟩⟩
 have bn:∀ (x:Id) m1 x' m2,M' x=some m1->M' x'=some m2->0<m1.cap->0<m2.cap->m1.b=m2.b->x=x':=fun x m1 x' m2 h1 h2 c1 c2 he=>by
  obtain ⟨y,n1,a1,a2,a3,a4⟩:=aq x m1 h1 c1;obtain ⟨y',n2,b1,b2,b3,b4⟩:=aq x' m2 h2 c2;have:=hR.inj y y' n1 n2 a1 b1 (by omega) (by omega) (by rw [a2,b2,he])
  subst this;rcases a4 with ⟨rfl,e1⟩|⟨rfl,e1,_⟩<;>rcases b4 with ⟨rfl,e2⟩|⟨rfl,e2,_⟩
  . rfl
  . exact absurd e1 e2
  . exact absurd e2 e1
  . rfl
 have ad:∀ (x:Id) m0,x≠.b n->M x=some m0->0<m0.cap->(ChangeMaps.setBlock w m.b (.map J q)).heap[m0.b]?=w.heap[m0.b]?:=fun x m0 hx h0 c0=>ak m0.b fun e=>hx (hR.inj x (.b n) m0 m h0 a8 c0 am e)
 generalize ab:xM1 bx.xs t0.data.toList (.list b2.sz b2.xs)=O at r2 r3;have aw:∀ k,O.getD k .top=if k=ix then .agg [.str t0.data.toList,.list b2.sz b2.xs] else bx.xs.getD k .top:=fun k=>by rw [<-ab,<-Y];exact xuS k
 have co:O.length<=bx.xs.length+1:=by rw [<-ab];exact xAd.2
 have ck:bx.xs.length<=O.length:=by rw [<-ab];exact xAd.1
 have a7:ix<O.length:=by rw [<-ab,<-Y];exact xIK
 have b8:ix<=bx.xs.length:=by
  rw [<-Y];unfold putIx;cases hi:mapIx bx.xs t0.data.toList with
  | none=>exact zd _
  | some i=>exact Nat.le_of_lt (xuP hi)
 have ax:∀ k,k<O.length->k≠ix->k<bx.xs.length:=fun k hk hne=>by
  unfold xM1 at ab;unfold putIx at Y;cases hi:mapIx bx.xs t0.data.toList with
  | none=>rw [hi] at Y;simp only at Y;omega
  | some i=>rw [hi] at ab;rw [<-ab] at hk;simpa using hk
 have a5:((H.set id ⟨aa+1,b2.sz,b2.ty,[],false,true⟩).set n ⟨ver,2,bx.ty,O,false,true⟩)[n]?=some ⟨ver,2,bx.ty,O,false,true⟩:=zL (by simpa using bp)
 have bh:((H.set id ⟨aa+1,b2.sz,b2.ty,[],false,true⟩).set n ⟨ver,2,bx.ty,O,false,true⟩)[id]?=some ⟨aa+1,b2.sz,b2.ty,[],false,true⟩:=by
  rw [zX (Ne.symm hne),zL b7]
 have bc:∀ k,xMN bx.ty k=true->k=1:=fun k hk=>by rw [xr3 hk,<-xr3 an]
 have hR':HR (ChangeMaps.setBlock w m.b (.map J q)) A M' B ((H.set id ⟨aa+1,b2.sz,b2.ty,[],false,true⟩).set n ⟨ver,2,bx.ty,O,false,true⟩):=by
  refine hR.rebuild (fun k=>k=n\/k=id) (fun k hk ct=>?_) (fun x Q=>ah x (fun e=>Q (.inr (by rw [e];rfl))) fun e=>Q (.inl (by rw [e];rfl))) (fun x m0 Q h0 c0=>⟨ad x m0 (fun e=>Q (.inl (by rw [e];rfl))) h0 c0,fun h=>h⟩) W (by rw [af];exact zd _) (fun _ _ h=>h) ac (fun x m' hS Q=>?_) (fun x m1 x' m2 _ h1 h2 c1 c2 he=>bn x m1 x' m2 h1 h2 c1 c2 he) (fun b hb=>by rw [af];exact hR.lt b hb)
  . rw [zX (fun e=>hk (.inl e.symm)),zX (fun e=>hk (.inr e.symm))]
  . by_cases e1:x=.b id
    . subst e1;rw [ap] at Q;cases Q;have hc:∀ {p:Prop},0<(0:Nat)->p:=fun h=>absurd h (by simp)
      exact ⟨(⟨aa+1,b2.sz,b2.ty,[],false,true⟩:Box),bh,by simp only;rw [<-V.ver,ay],V.sz,V.ty,zQ _,zQ _,fun x hx=>by simp at hx,hc,hc,hc,hc⟩
    . by_cases e2:x=.r n ix 1
      . subst e2;rw [ai] at Q;cases Q;have b6:getB ((H.set id ⟨aa+1,b2.sz,b2.ty,[],false,true⟩).set n ⟨ver,2,bx.ty,O,false,true⟩) (.r n ix 1)=some ⟨2*b2.xs.length,b2.sz,rowTy bx.ty,b2.xs,false,true⟩:=by
         rw [xem a5 ao an rfl a7];show some (xNc _ ((O.getD ix .top).cells.getD 1 .top))=_;rw [aw,if_pos rfl];rfl
        have k4:=V.mono (w':=ChangeMaps.setBlock w m.b (.map J q)) (A':=A) (M':=M') (fun h0=>ad (.b id) m2 (fun e=>hne (by injection e)) al h0) W (by rw [af];exact zd _) (fun _ _ h=>h) V.guard ac
        refine ⟨_,b6,rfl,k4.sz,by rw [<-bk];exact k4.ty,k4.capm,k4.fits,k4.ok,k4.low,k4.lt,fun h0=>?_,fun h0=>?_⟩
        . obtain ⟨cc,c1,c2,c3⟩:=k4.cells h0;refine ⟨cc,c1,c2,fun i' j' a6 hk=>?_⟩
          have h4:=c3 i' j' a6 hk;rw [xal ag,xaF ag,bq] at h4;rw [xal (xbB _),xaF (bx:=⟨2*b2.xs.length,b2.sz,rowTy bx.ty,b2.xs,false,true⟩) (xbB _)];exact h4
        . have:=k4.guard h0;rw [bj] at this;exact this
      . by_cases aj:x.base=id
        . rw [ah x e1 e2] at Q;obtain ⟨bx',k1,k2⟩:=hR.box x m' Q;cases x with
          | b k=>exact absurd (by rw [<-aj];rfl) e1
          | r k i' j' =>
           simp only [Id.base] at aj;subst aj;rw [xch ae ag] at k1;cases k1;exact ⟨tombB,xch bh ag,k2.mono (fun h0=>ad _ m' (fun e=>by cases e) Q h0) W (by rw [af];exact zd _) (fun _ _ h=>h) k2.guard ac⟩
        have au:x.base=n:=by
         rcases hS with h|h
         . exact h
         . exact absurd h aj
        rw [ah x e1 e2] at Q;obtain ⟨bx',k1,k2⟩:=hR.box x m' Q;cases x with
        | r n' i' j' =>
         simp only [Id.base] at au;subst au;have k3:getB ((H.set id ⟨aa+1,b2.sz,b2.ty,[],false,true⟩).set n' ⟨ver,2,bx.ty,O,false,true⟩) (.r n' i' j')=some bx':=by
          obtain ⟨ce,e3,e4,e5⟩:=xh2 ar ao k1;have bv:=bc j' ce;subst bv;have cd:i'≠ix:=fun e=>e2 (by rw [e])
          rw [xem a5 ao an rfl (by show i'<O.length;omega),e5]
          show some (xNc _ ((O.getD i' .top).cells.getD 1 .top))=_;rw [aw,if_neg cd];have:∀ y:AV,xNc ⟨ver,2,bx.ty,O,false,true⟩ y=xNc bx y:=fun y=>by
           cases y<;>simp [xNc,bi]
          rw [this]
         exact ⟨bx',k3,k2.mono (fun h0=>ad _ m' (fun e=>by cases e) Q h0) W (by rw [af];exact zd _) (fun _ _ h=>h) k2.guard ac⟩
        | b n' =>
         simp only [Id.base] at au;subst au;rw [a8] at Q;cases Q;have hroom':O.length<=maxLen:=by
          unfold xNA at ba;unfold maxLen;omega
         refine ⟨⟨ver,2,bx.ty,O,false,true⟩,a5,cl.symm.trans Z.ver,hsz.symm,Z.ty,Z.capm,by rw [hcap];exact hroom',fun y hy=>?_,Z.low,fun h0=>by rw [af];exact Z.lt h0,fun h0=>?_,fun _=>⟨fun _=>hA,fun _=>rfl⟩⟩
         . rw [hsz];obtain ⟨k,hk,rfl⟩:=xkS hy;rw [aw];by_cases a9:k=ix
           . rw [if_pos a9];exact xyj rfl
           . rw [if_neg a9,<-hsz];exact Z.ok _ (xau (ax k hk a9))
         . let c':Array Value:=Array.ofFn (n:=maxLen*2) fun k=>match J[k.val / 2]? with
            | some x=>if k.val % 2=0 then x.key else x.val
            | none=>undef
           have cr:J.size<=maxLen:=by rw [r2];exact hroom'
           have bw:∀ (k:Nat) (x:MapEntry),J[k]?=some x->k<J.size:=fun k x hx=>by
            rcases zJ k J.size with h|h
            . exact h
            . simp [Array.getElem?_eq_none h] at hx
           have hc':∀ (k:Nat) (x:MapEntry),J[k]?=some x->c'.getD (k*m.sz) undef=x.key/\c'.getD (k*m.sz+1) undef=x.val:=fun k x hx=>by
            have hk:=bw k x hx;rw [hsz];have e1:k*2<maxLen*2:=by omega
            have e2:k*2+1<maxLen*2:=by omega
            constructor
            . rw [zu,Array.getElem?_ofFn,dif_pos e1];simp only [zh,Nat.mul_div_cancel _ (by omega:0<2),hx,Nat.mul_mod_left,if_true]
            . rw [zu,Array.getElem?_ofFn,dif_pos e2];have d1:(k*2+1) / 2=k:=by omega
              have d2:¬ (k*2+1) % 2=0:=by omega
              simp only [zh,d1,hx,d2,if_false]
           refine ⟨c',?_,by rw [hcap,hsz];exact Array.size_ofFn,fun i' j' a6 b0=>?_⟩
           . unfold HoldsC;rw [ci];exact ⟨J,q,bo,r2,hcap,hc',fun k x hx=>by obtain ⟨t',a1,_,a3⟩:=r3 k x hx;exact ⟨t',a1,a3⟩,r5⟩
           . have cf:i'<J.size:=by rw [r2];exact a6
             obtain ⟨x,hx⟩:∃ x,J[i']?=some x:=⟨J[i'],by simp [cf]⟩
             rw [hsz] at b0;rcases j' with _|_|j'
             . rw [Nat.add_zero,(hc' i' x hx).1];obtain ⟨t',a1,a2,_⟩:=r3 i' x hx;unfold MV xM9;simp only [bf];rw [a1,a2];exact .str t'
             . rw [(hc' i' x hx).2];unfold MV xM9;simp only [an];rw [aw];rcases r4 i' x hx with ⟨g1,g2⟩|⟨g1,g2⟩
               . rw [if_neg g1];have h4:=bb i' x g2;unfold MV xM9 at h4;simp only [an] at h4;exact h4.mono W (by rw [af];exact zd _) (fun _ _ h=>h) ac
               . rw [if_pos g1,g2];subst g1;obtain ⟨m3,q1,q2,q3,q4⟩:=Rel.osl_inv hv;rw [al] at q1;cases q1;obtain ⟨q5,a,q6,q7⟩:=q4 (by rw [<-ay,V.ver])
                 exact .osl _ (.r n' i' 1) _ _ _ _ ai (zd _) q3 fun _=>⟨q5,a,q6,q7⟩
             . omega
 refine ⟨.skip,ChangeMaps.setBlock w m.b (.map J q),A,M',undef,?_,.inr ⟨rfl,rfl⟩,⟨rfl,rfl,rfl,by rw [af];exact zd _,fun k hk=>ak k fun e=>by have:=Z.low am;omega⟩,ac,fun _ _=>Iff.rfl,W,⟨fun b _ hb=>ak b fun e=>hb (.b n) m a8 am e.symm,fun x m' h h0=>?_⟩,hR',.tuple #[] [] rfl (by simp)⟩
 . rcases ho with ho|ho<;>simp only [execOp,ho,Sem.run_bind,b9,bz,r1,Result.andThen_ok,Sem.run_pure]
 . obtain ⟨y,m0,a1,a2,a3,_⟩:=aq x m' h h0;exact .inl ⟨y,m0,a1,by omega,a2.symm⟩
end
theorem xDZ (hR:HR w A M B H) (hB:B<=w.heap.size) {o:Oper} {ρc:Operand->Value} {t:TypeId} {r:AV} {H':List Box} (ho:o.op=.makeMap t none) (h:absMakeM P H t=some (r,H')) :
  Writes P o ρc w A M B r H':=by
 unfold absMakeM at h;split at h
 case h_2=>simp at h
 rename_i kt et ag;split at h
 case h_2=>simp at h
 rename_i ty af ae;split at h
 case isFalse=>simp at h
 rename_i aa;obtain ⟨Q,ad⟩:=aa;simp only [z6,zb] at h;obtain ⟨rfl,rfl⟩:=h;have hn:Free M H.length:=hR.free_of_length (zd _);have q:=xjJ w (.map #[] 0);have U:rty ty=ty:=by unfold rty;rw [ad,Q]
 let m:MB:=⟨w.heap.size,0,2,maxLen,ty⟩;have O:MExt M (MPut M H.length m):=xsg hn m;have hA:∀ b,b<w.heap.size->(APut A w.heap.size false b->A b):=fun b hb h=>by
  rcases h with h|⟨h,_⟩
  . exact h
  . omega
 have J:MPut M H.length m (.b H.length)=some m:=by simp [MPut]
 have Z:(H++[⟨0,2,ty,[],false,true⟩])[H.length]?=some ⟨0,2,ty,[],false,true⟩:=by simp
 have ab:∀ x:Id,x≠.b H.length->MPut M H.length m x=M x:=fun x hx=>by simp [MPut,hx]
 have hR':HR (w.alloc (.map #[] 0)) (APut A w.heap.size false) (MPut M H.length m) B (H++[⟨0,2,ty,[],false,true⟩]):=by
  refine hR.rebuild (fun k=>k=H.length) (fun k hk ac=>zO ac) (fun x hx=>ab x fun e=>hx (by rw [e];rfl)) (fun x m0 hx h0 c0=>?_) (fun b hb _=>q.block b hb) q.size hA O (fun x m0 hx h0=>?_) (fun x m1 x' m2 hx h1 h2 c1 c2 he=>?_) (fun b hb=>?_)
  . obtain ⟨bx,_,k2⟩:=hR.box x m0 h0;exact ⟨q.block _ (k2.lt c0),.inl⟩
  . cases x with
    | b k =>
     have hx:k=H.length:=hx;subst hx;rw [J] at h0;cases h0;refine ⟨_,Z,rfl,rfl,U,zd _,zQ _,fun y hy=>by simp at hy,fun _=>hB,fun _=>by simp [m],fun _=>⟨Array.replicate (maxLen*2) undef,?_,by simp [m],fun i j hi _=>by simp at hi⟩,fun _=>⟨fun _=>.inr ⟨rfl,rfl⟩,fun _=>rfl⟩⟩
     unfold HoldsC;show match xMO ty with|false=>_|true=>_
     rw [Q];exact ⟨#[],0,heap_alloc_new w _,rfl,rfl,fun k x hx=>by simp at hx,fun k x hx=>by simp at hx,fun k l x y hx=>by simp at hx⟩
    | r k i j =>
     have hx:k=H.length:=hx;subst hx;have:MPut M H.length m (.r H.length i j)=M (.r H.length i j):=by simp [MPut]
     rw [this,hn.2] at h0;cases h0
  . have Y:x=.b H.length:=by
     cases x with
     | b k=>have hx:k=H.length:=hx;rw [hx]
     | r k i j =>
      have hx:k=H.length:=hx;subst hx;have:MPut M H.length m (.r H.length i j)=M (.r H.length i j):=by simp [MPut]
      rw [this,hn.2] at h1;cases h1
    subst Y;rw [J] at h1;cases h1;by_cases V:x'=.b H.length
    . exact V.symm
    . have h2':M x'=some m2:=by simpa [MPut,V] using h2
      obtain ⟨bx',_,h3⟩:=hR.box x' m2 h2';have:=h3.lt c2;rw [<-he] at this;simp [m] at this
  . rcases hb with hb|⟨rfl,_⟩
    . have:=hR.lt b hb;simp;omega
    . simp
 refine ⟨.value (.map (some w.heap.size)),w.alloc (.map #[] 0),APut A w.heap.size false,MPut M H.length m,.map (some w.heap.size),?_,.inl rfl,⟨rfl,rfl,rfl,q.size,fun k hk=>q.block k (Nat.lt_of_lt_of_le hk hB)⟩,O,fun b hb=>⟨hA b hb,.inl⟩,fun b hb _=>q.block b hb,Touch.of_new q (fun id m' h=>?_),hR',.own _ (.b H.length) 0 0 0 m J (zd _) rfl fun _=>?_⟩
 . simp [execOp,ho,Instr.makeMap]
 . by_cases W:id=.b H.length
   . subst W;rw [J] at h;cases h;exact .inr (zd _)
   . exact .inl (by simpa [MPut,W] using h)
 . unfold ptrOf;show _=match xMO ty with|true=>_|false=>_
   rw [Q];rfl
end
end
section
variable {P : Program} {w : World} {A : Nat -> Prop} {M : Id -> Option MB} {B : Nat} {H : List Box}
def iop (P:Program) (ρ:Operand->AV) (H:List Box) (op:Op):Option (AV×List Box) :=
 match op with
 | .store t a v=>match mkd H (ρ a) with
  | true=>match absAdopt P H t (ρ a) (ρ v) with
   | some H'=>some (.tuple [],H')
   | none=>none
  | false=>match absStore P H t (ρ a) (ρ v) with
   | some H'=>some (.tuple [],H')
   | none=>none
 | .call c=>match c.callee with
  | .builtin b=>match b,c.argTypes.toList,c.args.toList with
   | .append,[t,t'],[s,x]=>match isRowRef (ρ s) with
    | true=>absTake P H t t' (ρ s) (ρ x)
    | false=>match mkd H (ρ s) with
     | true=>absAppC P H t t' (ρ s) (ρ x)
     | false=>xNP P H t t' (ρ s) (ρ x)
   | .clear,[t],[x]=>match absClear P H t (ρ x) with
    | some H'=>some (.tuple [],H')
    | none=>none
   | _,_,_=>none
  | _=>none
 | .lookup t m k c=>match absLookM P H t (ρ m) (ρ k) c with
  | some r=>some (r,H)
  | none=>match absLookR P H t (ρ m) (ρ k) c with
   | some r=>some (r,H)
   | none=>none
 | .mapUpdate t m k v=>match absPutM P H t (ρ m) (ρ k) (ρ v) with
  | some H'=>some (.tuple [],H')
  | none=>match absPutR P H t (ρ m) (ρ k) (ρ v) with
   | some H'=>some (.tuple [],H')
   | none=>none
 | .makeMap t r=>match r with
  | none=>absMakeM P H t
  | some _=>none
 | _=>none
theorem xHf (hR:HR w A M B H) (hB:B<=w.heap.size) {ρ:Operand->AV} {ρc:Operand->Value} {o:Oper} {x:AV} {H':List Box} (hρ:∀ a,Rel w A M (ρc a) (ρ a)) (h:iop P ρ H o.op=some (x,H')):Writes P o ρc w A M B x H':=by
 unfold iop at h;split at h
 . rename_i t a v ho;split at h
   . split at h
     case h_2=>simp at h
     rename_i H2 q;simp only [z6,zb] at h;obtain ⟨rfl,rfl⟩:=h;exact xDG hR ho (hρ a) (hρ v) q
   . split at h
     case h_2=>simp at h
     rename_i H2 q;simp only [z6,zb] at h;obtain ⟨rfl,rfl⟩:=h;exact xEg hR ho (hρ a) (hρ v) q
 . rename_i c ho;split at h
   case h_2=>simp at h
   rename_i b J;split at h
   . rename_i t t' s y O Q;split at h
     . exact xF5 hR hB ho J O Q (hρ s) (hρ y) h
     . split at h
       . exact xFb hR hB ho J O Q (hρ s) (hρ y) h
       . exact xvN hR hB ho J O Q (hρ s) (hρ y) h
   . rename_i t x O Q;split at h
     case h_2=>simp at h
     rename_i H2 q;simp only [z6,zb] at h;obtain ⟨rfl,rfl⟩:=h;exact xDK hR ho J O Q (hρ x) q
   . simp at h
 . rename_i t m k c ho;split at h
   . rename_i r q;simp only [z6,zb] at h;obtain ⟨rfl,rfl⟩:=h;exact xFB hR ho (hρ m) (hρ k) q
   . split at h
     case h_2=>simp at h
     rename_i r q;simp only [z6,zb] at h;obtain ⟨rfl,rfl⟩:=h;exact xDY hR ho (hρ m) (hρ k) q
 . rename_i t m k v ho;split at h
   . rename_i H2 q;simp only [z6,zb] at h;obtain ⟨rfl,rfl⟩:=h;exact xFL hR (.inl ho) (hρ m) (hρ k) (hρ v) q
   . split at h
     case h_2=>simp at h
     rename_i H2 q;simp only [z6,zb] at h;obtain ⟨rfl,rfl⟩:=h;exact xFN hR (.inl ho) (hρ m) (hρ k) (hρ v) q
 . rename_i t r ho;split at h
   . exact xDZ hR hB ho h
   . simp at h
 . simp at h
end
def absAppE (P:Program) (H:List Box) (nid:Nat) (t tt:TypeId) (s x:AV):Option (AV×Option Box) :=
 match s with
 | .empt=>match xML P t with
  | some ti=>match ti.d with
   | .slice e=>match xML P e with
    | some te=>match absSrc P H t tt e te.sz x with
     | some (ys,pm)=>if 0<te.sz/\ys.length*te.bytes<=140737488355328/\ys.length<=xNA/\te.zero.okElem te.sz=true then some (.osl nid 0 0 ys.length,some ⟨0,te.sz,e,ys,false,pm⟩) else none
     | none=>none
    | none=>none
   | _=>none
  | none=>none
 | _=>none
section
variable {P : Program} {w : World} {A : Nat -> Prop} {M : Id -> Option MB} {B : Nat} {H : List Box} {nid : Nat}
theorem HR.virtAt (hR:HR w A M B H) (hn:Free M nid) {bx:Box} (hH:H[nid]?=some bx) (hx:bx.xs=[]) (W:isC bx.ty=false) :
  MExt M (MPut M nid ⟨0,bx.ver,bx.sz,0,bx.ty⟩)/\NewId w M (MPut M nid ⟨w.heap.size,bx.ver,bx.sz,0,bx.ty⟩) nid/\HR w A (MPut M nid ⟨w.heap.size,bx.ver,bx.sz,0,bx.ty⟩) B H/\MPut M nid ⟨w.heap.size,bx.ver,bx.sz,0,bx.ty⟩ nid=some ⟨w.heap.size,bx.ver,bx.sz,0,bx.ty⟩/\MExt M (MPut M nid ⟨w.heap.size,bx.ver,bx.sz,0,bx.ty⟩):=by
 have Q:MExt M (MPut M nid ⟨w.heap.size,bx.ver,bx.sz,0,bx.ty⟩):=xsg hn _;have O:∀ id m',MPut M nid ⟨w.heap.size,bx.ver,bx.sz,0,bx.ty⟩ id=some m'->0<m'.cap->M id=some m':=fun id m' hm h0=>by
  by_cases q:id=.b nid
  . subst q;simp [MPut] at hm;subst hm;exact absurd h0 (by simp)
  . simpa [MPut,q] using hm
 refine ⟨xsg hn _,⟨fun id q=>by simp [MPut,q],fun m' J=>.inr (by simp [MPut] at J;subst J;exact zd _)⟩,⟨fun id m' J=>?_,fun id id' m1 m2 h1 h2 c1 c2 he=>hR.inj id id' m1 m2 (O id m1 h1 c1) (O id' m2 h2 c2) c1 c2 he,hR.lt⟩,by simp [MPut],Q⟩
 by_cases q:id=.b nid
 . subst q;have:m'=⟨w.heap.size,bx.ver,bx.sz,0,bx.ty⟩:=by simp [MPut] at J;exact J.symm
   subst this;have hc:∀ {p:Prop},0<(0:Nat)->p:=fun h=>absurd h (by simp)
   exact ⟨bx,hH,rfl,rfl,xaH W,zQ _,by rw [hx];exact zQ _,fun x U=>by rw [hx] at U;simp at U,hc,hc,hc,hc⟩
 . have V:M id=some m':=by simpa [MPut,q] using J
   obtain ⟨bx',g1,g2⟩:=hR.box id m' V;exact ⟨bx',g1,g2.mono (fun _=>rfl) (fun _ _ _=>rfl) (zd _) (fun _ _ h=>h) g2.guard Q⟩
theorem xFc (hR:HR w A M B H) (hB:B<=w.heap.size) (hn:Free M nid) {o:Oper} {ρc:Operand->Value} {c:Call} {t tt:TypeId} {os ox:Operand} {xs xx r:AV} {nb:Option Box} (ho:o.op=.call c) (Z:c.callee=.builtin .append)
  (aq:c.argTypes.toList=[t,tt]) (ap:c.args.toList=[os,ox]) (hs:Rel w A M (ρc os) xs) (hx:Rel w A M (ρc ox) xx) (h:absAppE P H nid t tt xs xx=some (r,nb)) (hH:∀ bx,nb=some bx->∃ f,H[nid]?=some { bx with frz:=f }) :
  Gives P o ρc w A M B H nid r:=by
 unfold absAppE at h;split at h
 case h_2=>simp at h
 split at h
 case h_2=>simp at h
 rename_i ti ax;split at h
 case h_2=>simp at h
 rename_i e hd;split at h
 case h_2=>simp at h
 rename_i te W;split at h
 case h_2=>simp at h
 rename_i ys pm an;split at h
 case isFalse=>simp at h
 rename_i ay;obtain ⟨Y,az,aj,O⟩:=ay;simp only [z6,zb] at h;obtain ⟨rfl,rfl⟩:=h;obtain ⟨f,af⟩:=hH _ rfl;have hu:P.underlying t=some (.slice e):=by rw [xlF ax,hd]
 obtain ⟨i,z,aa,a3,a0,al,ac,aw,_⟩:=xaW W;have ah:isC e=false:=xmi W;have hts':c.argTypes=#[t,tt]:=by apply Array.ext';simpa using aq
 have has':c.args=#[os,ox]:=by apply Array.ext';simpa using ap
 have q:∀ v w',(Builtin.append_ #[t,tt] o.type #[ρc os,ρc ox]).run P w=.ok v w'->(execOp ρc o).run P w=.ok (.value v) w':=by
  intro v w' hv;simp [execOp,ho,resolve,Z,hts',has',invoke,builtin,hv,Go.resolve]
 have U:∃ a,ρc os=.slice a 0 0:=by
  generalize ρc os=v at hs;cases hs with|empt a=>exact ⟨a,rfl⟩
 obtain ⟨a,U⟩:=U;rw [U] at q;rcases xr4 hR W Y hu (ty:=o.type) aa hx an with ⟨rfl,au⟩|⟨a1,ao,news,ag,am,Q⟩
 . obtain ⟨_,g2,g3,g4,g5⟩:=hR.virtAt hn af rfl ah;exact ⟨.slice a 0 0,w,A,_,q _ _ (au a 0 0 (zd _)),Below.refl _ _,g5,fun _ _=>Iff.rfl,g2,g3,.osl _ (.b nid) 0 0 0 _ g4 (zd _) rfl fun _=>⟨by simp,a,by simp,fun h=>by simp at h⟩⟩
 have a5:ys.length<=4611686018427387904:=aj;have ar:Rel w A M z te.zero:=by rw [aw];exact xcN w A M z
 obtain ⟨a2,_⟩:=ar.cells (xaE O);have a4:=xan O;have J:(Builtin.append_ #[t,tt] o.type #[.slice a 0 0,ρc ox]).run P w=.ok (.slice (some ⟨w.heap.size,0,none⟩) ys.length (grownCap w ys.length 0 e)) (w.drew.alloc (.cells (news.toArray++Builtin.zeroCells z.cells (grownCap w ys.length 0 e - ys.length)) e)):=by
  have R:=Q i z aa a0 al.symm;cases a with
  | none=>exact R.nil (by omega) (by rw [<-ac];omega)
  | some b =>
   have:=R.grow b 0 0 [] (by simp) (fun j u hj=>by simp at hj) (by omega) (by omega) (growslice_fits (by omega) (by rw [<-ac];simpa using az))
   simpa using this
 have V:=grownCap_ge w ys.length 0 e;have ai:=grownCap_le_maxLen w ys.length 0 e (by unfold maxLen;omega)
 generalize hcap:grownCap w ys.length 0 e=cap at J V ai;have ad:(Builtin.zeroCells z.cells (cap - ys.length)).size=(cap - ys.length)*te.sz:=by rw [size_zeroCells];congr 1;omega
 have ak:=xrN (bx:=⟨0,te.sz,e,ys,f,pm⟩) (nid:=nid) (c:=news.toArray++Builtin.zeroCells z.cells (cap - ys.length)) (cap:=cap) hR.drew (by simpa using hB) hn ah af ai
  (by rw [Array.size_append,List.size_toArray,ag,ad,<-Nat.add_mul];congr 1;omega) V ao
  (fun i' j ae hj=>by
   have hk:i'*te.sz+j<ys.length*te.sz:=xda ae hj;have e1:(news.toArray++Builtin.zeroCells z.cells (cap - ys.length)).getD (i'*te.sz+j) undef=news.getD (i'*te.sz+j) undef:=by
    simp only [zu,Array.getElem?_append,List.size_toArray,ag,hk,if_true,List.getElem?_toArray,z7]
   rw [e1];exact (am _ _ ae hj).grow ⟨rfl,rfl,rfl,zd _,fun _ _=>rfl⟩)
 obtain ⟨s1,s2,s3,s4,s5⟩:=ak;have ab:Below w.heap.size w (w.drew.alloc (.cells (news.toArray++Builtin.zeroCells z.cells (cap - ys.length)) e)):=((Below.refl _ _).drew).alloc (by simp) _
 exact ⟨_,_,_,_,q _ _ J,ab,s1,s2,s3,s4,.osl _ (.b nid) 0 0 ys.length _ s5 (zd _) rfl fun _=>⟨by simpa using V,some ⟨w.heap.size,0,none⟩,by simp,fun _=>by simp⟩⟩
end
theorem xJp {P:Program} {w:World} {A:Nat->Prop} {M:Id->Option MB} {B:Nat} {H:List Box} {nid:Nat} {o:Oper} {ρc:Operand->Value} {e:TypeId} {v:Value} {x:AV} (hR:HR w A M B H) (hv:Rel w A M v x) (J:x.cells.all AV.one=true) (hp:x.pure=true)
  (Q:(execOp ρc o).run P w=.ok (.value (.pointer (some ⟨w.heap.size,0,none⟩))) (w.alloc (.cells v.cells e))):Gives P o ρc w A M B H nid (.eptr x.cells.length [x] 0 0):=by
 obtain ⟨h1,h2⟩:=hv.cells J;have q:=xjJ w (.cells v.cells e);have U:¬ A w.heap.size:=fun h=>Nat.lt_irrefl _ (hR.lt _ h)
 have:=Rel.eptr (w:=w.alloc (.cells v.cells e)) (A:=A) (M:=M) w.heap.size 0 x.cells.length [x] 0 0 (fun _ j=>v.cells.getD j undef) U (by simp) (by simp)
  (fun y hy=>by simp only [zv] at hy;subst hy;simp only [AV.okElem,beq_self_eq_true,Bool.true_and];exact J)
  (fun i j hi hj=>by
   have O:i=0:=by simpa using hi
   subst O;have hj':j<v.cells.size:=by rw [h1];exact hj
   have hb:(w.alloc (.cells v.cells e)).heap[w.heap.size]?=some (.cells v.cells e):=heap_alloc_new w _;rw [Nat.zero_mul,zH];unfold World.cell?;simp only [hb];simp [hj'])
  (fun i j hi hj=>by
   have O:i=0:=by simpa using hi
   subst O;exact ((h2 j hj).pure (xfB (xn1 hp) j)).grow q)
 exact ⟨_,w.alloc (.cells v.cells e),A,M,Q,q,MExt.refl M,fun _ _=>Iff.rfl,⟨fun _ _=>rfl,fun _ h=>.inl h⟩,hR.grow q,by simpa using this⟩
def fopE (P:Program) (ρ:Operand->AV) (H:List Box) (nid:Nat) (op:Op):Option (AV×Option Box) :=
 match op with
 | .buildSlice t len parts=>match len,parts.toList with
  | 0,[]=>match xML P t with
   | some ti=>match ti.d with
    | .slice e=>match xML P e with
     | some _=>some (.empt,none)
     | none=>none
    | _=>none
   | none=>none
  | _,_=>none
 | .call c=>match c.callee with
  | .builtin b=>match b,c.argTypes.toList,c.args.toList with
   | .append,[t,t'],[s,x]=>absAppE P H nid t t' (ρ s) (ρ x)
   | _,_,_=>none
  | _=>none
 | .box _ x=>if (ρ x).cells.all AV.one=true/\(ρ x).pure=true then some (.eptr (ρ x).cells.length [ρ x] 0 0,none) else none
 | .lookup t m k c=>match absLookR P H t (ρ m) (ρ k) c with
  | some r=>some (r,none)
  | none=>none
 | _=>none
theorem xIq {P:Program} {ρ:Operand->AV} {H:List Box} {n n':Nat} {op:Op} {x:AV} (h:fopE P ρ H n op=some (x,none)):fopE P ρ H n' op=some (x,none):=by
 unfold fopE at h |-;split at h
 . exact h
 . split at h
   . split at h
     . exfalso;unfold absAppE at h;repeat' split at h
       all_goals simp at h
     . simp at h
   . simp at h
 . exact h
 . exact h
 . simp at h
theorem xFq {P:Program} {w:World} {A:Nat->Prop} {M:Id->Option MB} {B:Nat} {H:List Box} {nid:Nat} {ρ:Operand->AV} {ρc:Operand->Value} {o:Oper} {x:AV} {nb:Option Box} (hf:fopE P ρ H nid o.op=some (x,nb)) (hρ:∀ a,a∈o.op.operands.toList->Rel w A M (ρc a) (ρ a))
  (hR:HR w A M B H) (hB:B<=w.heap.size) (hn:Free M nid) (hH:∀ bx,nb=some bx->∃ f,H[nid]?=some { bx with frz:=f }):Gives P o ρc w A M B H nid x:=by
 unfold fopE at hf;split at hf
 . rename_i t len V ho;split at hf
   case h_2=>simp at hf
   rename_i q;split at hf
   case h_2=>simp at hf
   rename_i ti af;split at hf
   case h_2=>simp at hf
   rename_i e hd;split at hf
   case h_2=>simp at hf
   rename_i te ac;simp only [z6,zb] at hf;obtain ⟨rfl,rfl⟩:=hf;have aa:V=#[]:=by apply Array.ext';simpa using q
   subst aa;have ae:P.underlying t=some (.slice e):=by rw [xlF af,hd]
   obtain ⟨i,z,ad,ah,ab,ag,_⟩:=xaW ac;have W:(Instr.buildSlice t 0 #[]).run P w=.ok (.slice (some ⟨w.heap.size,0,none⟩) 0 0) (w.alloc (.cells #[] e)):=by
    simp [Instr.buildSlice,run_underlying ae,sizeOf,typeInfo,ad,Go.newRow,zeroValue,ab,Instr.fill,show Array.range 0=#[] from rfl]
   have J:=xjJ w (.cells #[] e);refine ⟨.slice (some ⟨w.heap.size,0,none⟩) 0 0,w.alloc (.cells #[] e),A,M,?_,J,MExt.refl M,fun _ _=>Iff.rfl,⟨fun _ _=>rfl,fun _ h=>.inl h⟩,hR.grow J,.empt _⟩
   simp only [execOp,ho,List.map_toArray,zW,Array.map_empty,Sem.run_bind,W,Result.andThen_ok,Sem.run_pure]
 . rename_i c ho;split at hf
   case h_2=>simp at hf
   rename_i b O;split at hf
   . rename_i t t' s y Z U;have Q:∀ a,a∈c.args.toList->Rel w A M (ρc a) (ρ a):=fun a ha=>hρ a (by simp [ho,Op.operands,Call.operands,O];simpa using ha)
     exact xFc hR hB hn ho O Z U (Q s (by rw [U];simp)) (Q y (by rw [U];simp)) hf hH
   . simp at hf
 . rename_i e a ho;split at hf
   case isFalse=>simp at hf
   rename_i hc;obtain ⟨Y,hp⟩:=hc;simp only [z6,zb] at hf;obtain ⟨rfl,rfl⟩:=hf;exact xJp (e:=e) hR (hρ a (by simp [ho,Op.operands])) Y hp (by simp [execOp,ho,Instr.box,newVar,Go.newRow])
 . rename_i t m k c ho;split at hf
   case h_2=>simp at hf
   rename_i r hr;simp only [z6,zb] at hf;obtain ⟨rfl,rfl⟩:=hf;obtain ⟨v,h1,h2⟩:=xAZ hR (hρ m (by simp [ho,Op.operands])) (hρ k (by simp [ho,Op.operands])) hr
   exact .stay hR ⟨v,by simp [execOp,ho,h1],h2⟩
 . simp at hf
end Go.Sim
end
