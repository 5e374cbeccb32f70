/- Part 3 of the proof of the law. -/
import Derived.Test.YtefdfdjimkinpaaGreatDoorTA2
import Derived.Laws.OwnMore
import Derived.Laws.Append
import Derived.Laws.AppendOwn
import Derived.Lib.AppendStr
import Derived.Tactics
import Derived.LoopN
set_option linter.defProp false
set_option linter.unusedVariables false
set_option linter.unusedSimpArgs false
set_option linter.unnecessarySimpa false
noncomputable section
namespace Go.Sim
open Go.RowKit
mutual
def AV.flat:AV->Bool
 | .agg cs=>AV.flats cs
 | .list _ _=>false
 | .eptr _ _ _ _=>false
 | .own _ _ _ _=>false
 | .osl _ _ _ _=>false
 | .func f cs=>match Nat.beq f vpF with
  | true=>false
  | false=>AV.flats cs
 | .tuple vs=>AV.flats vs
 | .top=>true
 | .bool _=>true
 | .int _ _=>true
 | .str _=>true
 | .nils=>true
 | .nilptr=>true
 | .nilfn=>true
 | .empt=>true
 | .gptr _=>true
 | .yld _=>true
def AV.flats:List AV->Bool
 | []=>true
 | x::xs=>AV.flat x&&AV.flats xs
end
def xvA:∀ xs:List AV,AV.flats xs=xs.all AV.flat
 | []=>by simp [AV.flats]
 | x::xs=>by simp [AV.flats,xvA xs]
def xoY {xs:List AV} (h:AV.flats xs=true) (i:Nat):(xs.getD i .top).flat=true:=by
 rw [xvA,zJ] at h;by_cases hi:i<xs.length
 . simp only [z7,zf hi,zi];exact h _ (zp _)
 . simp [z7,zA (Nat.le_of_not_lt hi),AV.flat]
def Rel.flat {w w':World} {A A':Nat->Prop} {M M':Id->Option MB} {v:Value} {x:AV} (h:Rel w A M v x):x.flat=true->Rel w' A' M' v x:=by
 induction h generalizing M' with
 | top v=>intro _;exact .top v
 | bool b=>intro _;exact .bool b
 | int k n=>intro _;exact .int k n
 | str s=>intro _;exact .str s
 | agg vs cs h hr ih=>intro hp;exact .agg vs cs h fun i hi=>ih i hi (xoY (by simpa [AV.flat] using hp) i)
 | nils=>intro _;exact .nils
 | list0 a cap sz=>intro _;exact .list0 a cap sz
 | list b off cap sz xs val ha hb hne hcap hsz hc hr ih=>intro hp;simp [AV.flat] at hp
 | eptr b off sz xs i0 j0 val ha hb hi hsz hc hr ih=>intro hp;simp [AV.flat] at hp
 | own v id ver i j m hm hv h1 he=>intro hp;simp [AV.flat] at hp
 | osl v id ver off len m hm hv h1 he=>intro hp;simp [AV.flat] at hp
 | nilptr=>intro _;exact .nilptr
 | func f vs cs h hr hf ih =>
  intro hp;cases hv:Nat.beq f vpF with
  | true=>simp [AV.flat,hv] at hp
  | false=>exact .func f vs cs h (fun i hi=>ih i hi (xoY (by simpa [AV.flat,hv] using hp) i)) hf
 | vptr b off v0 x ha hb hc hr ih=>intro hp;exact absurd hp (by simp [AV.flat,vpF])
 | nilfn=>intro _;exact .nilfn
 | nmap=>intro _;exact .nmap
 | empt a=>intro _;exact .empt a
 | tuple vs cs h hr ih=>intro hp;exact .tuple vs cs h fun i hi=>ih i hi (xoY (by simpa [AV.flat] using hp) i)
 | gptr g=>intro _;exact .gptr g
 | yld g=>intro _;exact .yld g
def mapO (r:AV->Option AV):List AV->Option (List AV)
 | []=>some []
 | x::xs=>match r x,mapO r xs with
  | some y,some ys=>some (y::ys)
  | _,_=>none
def resE (r:AV->Option AV):AV->Option AV
 | .agg cs=>match mapO r cs with
  | some ds=>some (.agg ds)
  | none=>none
 | x=>r x
def mapE (pm:Bool) (r:AV->Option AV) (xs:List AV):Option (List AV):=if pm=true then some xs else mapO (resE r) xs
def AV.toList:AV->List AV
 | .list _ xs=>xs
 | _=>[]
def xIO (sz:Nat):AV->Bool
 | .list z _=>Nat.beq z sz
 | _=>false
def xIE (sz j:Nat) (q:List AV):Bool:=q.all fun x=>xIO sz (x.cells.getD j .top)
def rowsOk (bx:Box) (q:List AV):Bool:=match isC bx.ty with
 | false=>true
 | true=>bx.pm&&xIE (rowSz bx.ty) (xIe bx.ty) q
def resolve (H:List Box):Nat->AV->Option AV
 | 0,x=>if x.pure=true then some x else none
 | n+1,x=>if x.pure=true then some x else
  match x with
  | .agg cs=>match mapO (resolve H n) cs with|some ds=>some (.agg ds)|none=>none
  | .func f cs=>match Nat.beq f vpF with
   | true=>none
   | false=>match mapO (resolve H n) cs with|some ds=>some (.func f ds)|none=>none
  | .own id ver i j=>match xIb H id ver with
   | some bx=>match mapE bx.pm (resolve H n) bx.xs with
    | some ys=>if i<bx.xs.length/\isC bx.ty=false then some (.eptr bx.sz ys i j) else none
    | none=>none
   | none=>none
  | .osl id ver off len=>match xIb H id ver with
   | some bx=>match mapE bx.pm (resolve H n) ((bx.xs.drop off).take len) with
    | some ys=>if off+len<=bx.xs.length/\rowsOk bx ((bx.xs.drop off).take len)=true then some (.list bx.sz ys) else none
    | none=>none
   | none=>none
  | _=>none
def reach (H:List Box):Nat->AV->List Nat
 | 0,_=>[]
 | n+1,x=>if x.pure=true then [] else
  match x with
  | .agg cs=>cs.flatMap (reach H n)
  | .func _ cs=>cs.flatMap (reach H n)
  | .own id _ _ _=>id.base::(match getB H id with|some bx=>if bx.pm=true then [] else bx.xs.flatMap fun (e:AV)=>e.cells.flatMap (reach H n)|none=>[])
  | .osl id _ off len=>id.base::(match getB H id with|some bx=>if bx.pm=true then [] else ((bx.xs.drop off).take len).flatMap fun (e:AV)=>e.cells.flatMap (reach H n)|none=>[])
  | _=>[]
def xaI {xs:List AV} {i:Nat} (hi:i<xs.length):xs.getD i .top∈xs:=by
 simp only [z7,zf hi,zi];exact zp _
def xpc {H:List Box} {n:Nat} {x:AV} (h:x.pure=true):reach H n x=[]:=by
 cases n with
 | zero=>rfl
 | succ n=>unfold reach;rw [if_pos h]
def xc7 {r:AV->Option AV}:∀ {xs ys:List AV},mapO r xs=some ys->ys.length=xs.length/\∀ i,i<xs.length->r (xs.getD i .top)=some (ys.getD i .top)
 | [],ys,h=>by simp [mapO] at h;subst h;simp
 | x::xs,ys,h=>by
  unfold mapO at h;split at h
  . rename_i y zs h1 h2;cases h;obtain ⟨e1,e2⟩:=xc7 h2;refine ⟨by simp [e1],fun i hi=>?_⟩
    cases i with
    | zero=>simpa using h1
    | succ i=>have:=e2 i (by simp at hi;omega);simpa using this
  . simp at h
def xA3 {r:AV->Option AV} {xs ys:List AV} (h:mapO r xs=some ys) {i:Nat} (hi:i<xs.length):r (xs.getD i .top)=some (ys.getD i .top):=(xc7 h).2 i hi
def xzF {H:List Box} {n:Nat} {x y:AV} (h:resE (resolve H n) x=some y) (hx:x.cells.all AV.one=true) :
  y.cells.length=x.cells.length/\∀ j,j<x.cells.length->resolve H n (x.cells.getD j .top)=some (y.cells.getD j .top):=by
 have key:∀ x y:AV,x.cells=[x]->x.one=true->resolve H n x=some y->y.cells.length=x.cells.length/\∀ j,j<x.cells.length->resolve H n (x.cells.getD j .top)=some (y.cells.getD j .top):=by
  intro x y hc h1 hr;have hy:y.cells=[y]:=by
   cases n with
   | zero =>
    unfold resolve at hr;split at hr
    . cases hr;exact hc
    . simp at hr
   | succ n =>
    unfold resolve at hr;split at hr
    . cases hr;exact hc
    . split at hr<;>first
       | (simp [AV.one] at h1;done)
       | (simp at hr;done)
       | (
        split at hr
        . simp at hr
        . split at hr
          . cases hr;rfl
          . simp at hr)
       | (
        split at hr
        . cases hr;rfl
        . simp at hr)
       | (
        split at hr
        . split at hr
          . split at hr
            . cases hr;rfl
            . simp at hr
          . simp at hr
        . simp at hr)
  rw [hc,hy];refine ⟨rfl,fun j hj=>?_⟩
  have:j=0:=by simpa using hj
  subst this;exact hr
 cases x with
 | agg cs =>
  simp only [resE] at h;split at h
  . rename_i ds q;cases h;exact ⟨(xc7 q).1,fun j hj=>xA3 q hj⟩
  . simp at h
 | top=>simp [AV.cells,AV.one] at hx
 | tuple vs=>simp [AV.cells,AV.one] at hx
 | _=>exact key _ _ rfl (by simpa [AV.cells] using hx) h
def xwP {H:List Box} {n:Nat} {x y:AV} (h:resolve H n x=some y) (hx:x.one=true):y.one=true:=by unfold resolve AV.one at *;grind
def xip {H:List Box} {n:Nat} {x:AV} (h:x.pure=true):resolve H n x=some x:=by
 cases n<;>simp [resolve,h]
def xsD {H:List Box} {n sz:Nat} {pm:Bool} {xs ys:List AV} (h:mapE pm (resolve H n) xs=some ys) (q:∀ x,x∈xs->x.okElem sz=true) :
  ys.length=xs.length/\(∀ y,y∈ys->y.okElem sz=true)/\(pm=true->ys=xs)/\(¬ pm=true->∀ i j,i<xs.length->j<sz->resolve H n ((xs.getD i .top).cells.getD j .top)=some ((ys.getD i .top).cells.getD j .top)):=by
 unfold mapE at h;split at h
 . rename_i hp;cases h;exact ⟨rfl,q,fun _=>rfl,fun h=>absurd hp h⟩
 . rename_i J;obtain ⟨h1,h2⟩:=xc7 h;have at_:∀ i,i<xs.length->xs.getD i .top∈xs:=fun i hi=>by
    simp only [z7,zf hi,zi];exact zp _
   have cell:∀ i,i<xs.length->(ys.getD i .top).cells.length=sz/\∀ j,j<sz->resolve H n ((xs.getD i .top).cells.getD j .top)=some ((ys.getD i .top).cells.getD j .top):=by
    intro i hi;have hk:=q _ (at_ i hi);obtain ⟨e1,e2⟩:=xzF (h2 i hi) (xa1 hk);have hl:=xaw hk;exact ⟨by omega,fun j hj=>e2 j (by omega)⟩
   refine ⟨h1,fun y hy=>?_,fun h=>absurd h J,fun _ i j hi hj=>(cell i hi).2 j hj⟩
   obtain ⟨i,hi,rfl⟩:=zq.1 hy;have hi':i<xs.length:=by omega
   obtain ⟨c1,c2⟩:=cell i hi';have e:ys.getD i .top=ys[i]:=by simp [z7,hi]
   rw [e] at c1 c2;simp only [AV.okElem,c1,beq_self_eq_true,Bool.true_and,zJ];intro c hc;obtain ⟨j,hj,rfl⟩:=zq.1 hc;have hk:=xa1 (q _ (at_ i hi'));have hl:=xaw (q _ (at_ i hi'));have hj':j<sz:=by omega
   have h3:=c2 j hj';have e3:ys[i].cells.getD j .top=ys[i].cells[j]:=by simp [z7,hj]
   rw [e3] at h3;refine xwP h3 ?_;rw [zJ] at hk;have D:j<(xs.getD i .top).cells.length:=by omega
   exact hk _ (xaI D)
section
variable {w : World} {A A' : Nat -> Prop} {M M' : Id -> Option MB} {B : Nat} {H : List Box}
def xBd {n:Nat} {id:Id} {e:AV} {bx:Box} (hb:getB H id=some bx) (q:¬ bx.pm=true) (he:e∈bx.xs) {c:AV} (hc:c∈e.cells) {k:Nat} (hk:k∈reach H n c) :
  k∈(match getB H id with|some bx=>if bx.pm=true then [] else bx.xs.flatMap fun (e:AV)=>e.cells.flatMap (reach H n)|none=>[]):=by
 simp only [hb,q,if_false];exact y9.2 ⟨e,he,y9.2 ⟨c,hc,hk⟩⟩
def xBe {n:Nat} {id:Id} {off len:Nat} {e:AV} {bx:Box} (hb:getB H id=some bx) (q:¬ bx.pm=true) (he:e∈(bx.xs.drop off).take len) {c:AV} (hc:c∈e.cells) {k:Nat} (hk:k∈reach H n c) :
  k∈(match getB H id with|some bx=>if bx.pm=true then [] else ((bx.xs.drop off).take len).flatMap fun (e:AV)=>e.cells.flatMap (reach H n)|none=>[]):=by
 simp only [hb,q,if_false];exact y9.2 ⟨e,he,y9.2 ⟨c,hc,hk⟩⟩
def xfq {xs:List AV} {c:AV} (h:c∈xs):∃ i,i<xs.length/\xs.getD i .top=c:=by
 obtain ⟨i,hi,rfl⟩:=zq.1 h;exact ⟨i,hi,by simp [z7,hi]⟩
def xcP {H:List Box} {n:Nat} {b:Box} (h:H[n]?=some b):n<H.length:=by
 rcases zK n H.length with h'|h'
 . exact h'
 . rw [zA h'] at h;simp at h
def xkw {H H':List Box} {x:Id} (h:H[x.base]?=H'[x.base]?):getB H x=getB H' x:=by
 cases x with
 | b n=>exact h
 | r n i j=>simp only [Id.base] at h;simp only [getB,h]
def xlZ {H:List Box} {n i j:Nat} {rb:Box} (h:getB H (.r n i j)=some rb):∃ bx:Box,H[n]?=some bx/\(isC bx.ty=false/\rb=tombB\/isC bx.ty=true/\xH9 bx.ty j=true/\bx.pm=true/\i<bx.xs.length/\rb=xIA bx ((bx.xs.getD i .top).cells.getD j .top)):=by grind [getB]
def xgH {H:List Box} {n i j:Nat} {rb bx:Box} (hb:H[n]?=some bx) (hC:isC bx.ty=true) (h:getB H (.r n i j)=some rb):xH9 bx.ty j=true/\bx.pm=true/\i<bx.xs.length/\rb=xIA bx ((bx.xs.getD i .top).cells.getD j .top):=by
 obtain ⟨q,h1,h2⟩:=xlZ h;rw [hb] at h1;cases h1;rcases h2 with ⟨h2,_⟩|⟨_,h2⟩
 . rw [hC] at h2;cases h2
 . exact h2
def xeP {H:List Box} {n i j:Nat} {bx:Box} (hb:H[n]?=some bx) (hC:isC bx.ty=true) (hs:xH9 bx.ty j=true) (hp:bx.pm=true) (hi:i<bx.xs.length):getB H (.r n i j)=some (xIA bx ((bx.xs.getD i .top).cells.getD j .top)):=by
 simp only [getB,hb,hC];exact if_pos ⟨hs,hp,hi⟩
def xei {H:List Box} {n i j:Nat} {bx:Box} (hb:H[n]?=some bx) (hC:isC bx.ty=false):getB H (.r n i j)=some tombB:=by
 simp only [getB,hb,hC]
def xeQ {t:TypeId} {j:Nat} (h:xH9 t j=true):isC t=true:=by
 cases hc:isC t with
 | true=>rfl
 | false=>rw [xm6 hc] at h;cases h
def xfU {sz:Nat} {x:AV} (h:xIO sz x=true):∃ ys,x=.list sz ys:=by unfold xIO at *;repeat' split at h<;>simp_all
def xv6 (hR:HR w A M B H) (hA:∀ b,b<w.heap.size->A' b->A b) {n i j sz:Nat} {ys:List AV} {v:Value} {bx:Box} (hb:H[n]?=some bx) (hC:isC bx.ty=true) (hx:(bx.xs.getD i .top).cells.getD j .top=.list sz ys)
  (h:Rel w A M v (xJc n i j (.list sz ys))) (O:∀ m,M (.r n i j)=some m->0<m.cap->¬ A' m.b):Rel w A' xIl v (.list sz ys):=by
 obtain ⟨m,hm,Q,h1,he⟩:=Rel.osl_inv h;obtain ⟨rb,g1,g2⟩:=hR.box _ m hm;obtain ⟨g4,g5,g6,g7⟩:=xgH hb hC g1;rw [hx] at g7;subst g7;have hv:2*ys.length=m.ver:=g2.ver;obtain ⟨e1,a,rfl,e2⟩:=he hv;have hsz:sz=m.sz:=g2.sz;subst hsz;have D:isC (xIA bx (.list m.sz ys)).ty=false:=xbQ _;simp only [rowLen,Nat.sub_zero,zI] at e1 e2 |-;by_cases hz:ys=[]
 . subst hz;exact .list0 _ _ _
 . have hl:0<ys.length:=List.length_pos_iff.2 hz;have q:0<m.cap:=by omega
   obtain ⟨c,c1,c2,c3⟩:=g2.cells q
   replace c1:=c1.plain (g2.nomap (xaH D))
   have J:=e2 q;subst J;rw [Nat.zero_mul];refine .list m.b 0 m.cap m.sz ys (fun i j=>c.getD (i*m.sz+j) undef) (O m hm q) (g2.lt q) hz e1 g2.ok (fun i j hi hj=>?_) (fun i j hi hj=>?_)
   . have hk:i*m.sz+j<c.size:=by rw [c2];exact xdP (by omega) hj
     rw [zI];simp [World.cell?,c1,hk]
   . have h4:=c3 i j hi hj;rw [xar D,xax D] at h4;exact h4.mono (fun _ _ _=>rfl) (zd _) hA (MExt.refl _)
def xcV (hR:HR w A M B H) (hA:∀ b,b<w.heap.size->A' b->A b):∀ (n:Nat) (v:Value) (x y:AV),Rel w A M v x->resolve H n x=some y ->
  (∀ id:Id,id.base∈reach H n x->∀ m,M id=some m->0<m.cap->¬ A' m.b)->Rel w A' xIl v y
 | 0,v,x,y,hx,h,_=>by
  unfold resolve at h;split at h
  . rename_i hp;cases h;exact (hx.mono (fun _ _ _=>rfl) (zd _) hA (MExt.refl M)).pure hp
  . simp at h
 | n+1,v,x,y,hx,h,hid=>by
  unfold resolve at h;unfold reach at hid;split at h
  . rename_i hp;cases h;exact (hx.mono (fun _ _ _=>rfl) (zd _) hA (MExt.refl M)).pure hp
  rename_i hp;simp only [hp,if_false] at hid;split at h
  . rename_i cs;split at h
    case h_2=>simp at h
    rename_i ds ac;cases h;obtain ⟨vs,rfl,hs,hr⟩:=hx.agg_inv;obtain ⟨e1,e2⟩:=xc7 ac;exact .agg vs ds (by omega) fun i hi=>xcV hR hA n _ _ _ (hr i (by omega)) (e2 i (by omega)) fun k hk m hm=>hid k (y9.2 ⟨_,xaI (by omega),hk⟩) m hm
  . rename_i f cs;split at h
    . simp at h
    rename_i ah;split at h
    case h_2=>simp at h
    rename_i ds ac;cases h;obtain ⟨vs,rfl,hs,hr⟩:=hx.func_inv ah;obtain ⟨e1,e2⟩:=xc7 ac;exact .func f vs ds (by omega) (fun i hi=>xcV hR hA n _ _ _ (hr i (by omega)) (e2 i (by omega)) fun k hk m hm=>hid k (y9.2 ⟨_,xaI (by omega),hk⟩) m hm) fun e=>by rw [ah] at e;cases e
  . rename_i id ver i j;split at h
    case h_2=>simp at h
    rename_i bx V;split at h
    case h_2=>simp at h
    rename_i ys ae;split at h
    case isFalse=>simp at h
    rename_i hi;obtain ⟨hi,O⟩:=hi;cases h;obtain ⟨m,hm,q,rfl⟩:=xkQ hR hx V;have Y:=(xaJ V).1;have D:0<m.cap:=by have:=q.fits;omega
    obtain ⟨c,h1,h2,h3⟩:=q.cells D
    replace h1:=h1.plain (q.nomap (xb1 V))
    obtain ⟨e1,e2,e0,e3⟩:=xsD ae (fun x hx=>q.ok x hx)
    have hsz:=q.sz;have ad:∀ i j,i<bx.xs.length->j<m.sz->w.cell? ⟨m.b,i*m.sz+j,none⟩=some (c.getD (i*m.sz+j) undef):=by
     intro i j hi hj;have hk:i*m.sz+j<c.size:=by rw [h2];exact xdP (Nat.lt_of_lt_of_le hi q.fits) hj
     simp [World.cell?,h1,hk]
    have ab:¬ A' m.b:=hid id (by simp) m hm D
    have:=Rel.eptr (w:=w) (A:=A') (M:=xIl) m.b 0 m.sz ys i j (fun i j=>c.getD (i*m.sz+j) undef) ab (q.lt D) (by omega) e2
     (fun i j hi hj=>by rw [zI];exact ad i j (by omega) hj)
     (fun i j hi hj=>by
      have h4:=h3 i j (by omega) hj
      rw [xar O,xax O] at h4;by_cases J:bx.pm=true
      . rw [e0 J];rw [J] at h4;exact h4.mono (fun _ _ _=>rfl) (zd _) hA (MExt.refl _)
      . refine xcV hR hA n _ _ _ h4.unmp (e3 J i j (by omega) hj) fun k hk m' W=>?_
        refine hid k (List.mem_cons_of_mem _ (xBd Y J (xaI (show i<bx.xs.length by omega)) ?_ hk)) m' W
        have hl:=xaw (q.ok _ (xaI (show i<bx.xs.length by omega)))
        exact xaI (by omega))
    rw [zI] at this;rw [hsz];exact this
  . rename_i id ver off len;split at h
    case h_2=>simp at h
    rename_i bx V;split at h
    case h_2=>simp at h
    rename_i ys ae;split at h
    case isFalse=>simp at h
    rename_i ai;obtain ⟨ai,O⟩:=ai;cases h;obtain ⟨m,a,hm,q,am,rfl,ha⟩:=xil hR hx V;have Y:=(xaJ V).1;have af:∀ x,x∈(bx.xs.drop off).take len->x∈bx.xs:=fun x hx=>List.mem_of_mem_drop (List.mem_of_mem_take hx)
    obtain ⟨e1,e2,e0,e3⟩:=xsD ae (fun x hx=>q.ok x (af x hx))
    have aa:((bx.xs.drop off).take len).length=len:=by simp;omega
    have hg:∀ i,i<len->((bx.xs.drop off).take len).getD i .top=bx.xs.getD (off+i) .top:=fun i hi=>by
     simp [z7,List.getElem?_take,hi,List.getElem?_drop]
    have hsz:=q.sz;rw [aa] at e1;rw [hsz];by_cases hz:len=0
    . have:ys=[]:=zB (by omega)
      subst this;subst hz;exact .list0 _ _ _
    . have al:=ha (by omega);subst al
      have D:0<m.cap:=by omega
      obtain ⟨c,h1,h2,h3⟩:=q.cells D
      replace h1:=h1.plain (q.nomap (xb1 V))
      have ab:¬ A' m.b:=hid id (by simp) m hm D
      have:=Rel.list (w:=w) (A:=A') (M:=xIl) m.b (off*m.sz) (m.cap - off) m.sz ys (fun i j=>c.getD ((off+i)*m.sz+j) undef) ab (q.lt D) (by intro e;subst e;simp at e1;omega) (by omega) e2
       (fun i j hi hj=>by
        have hk:(off+i)*m.sz+j<c.size:=by rw [h2];exact xdP (by omega) hj
        rw [show off*m.sz+i*m.sz+j=(off+i)*m.sz+j by rw [Nat.add_mul]]
        simp [World.cell?,h1,hk])
       (fun i j hi hj=>by
        have h4:=h3 (off+i) j (by omega) hj
        cases Q:xH9 bx.ty j with
        | true =>
         have hc:=xeQ Q;unfold rowsOk at O;rw [hc] at O;simp only [xIE,zg,zJ] at O;have hj':j=xIe bx.ty:=by unfold xH9 at Q;rw [hc] at Q;exact zh Q
         obtain ⟨zs,Z⟩:=xfU (O.2 _ (xaI (xs:=(bx.xs.drop off).take len) (i:=i) (by omega)))
         rw [hg i (by omega),<-hj'] at Z
         rw [e0 O.1,hg i (by omega),Z]
         unfold xIw MV at h4;simp only [Q] at h4;rw [Z] at h4;cases id with
         | b nn=>exact xv6 hR hA Y hc Z h4 fun m' W h0=>hid (.r nn (off+i) j) (by simp [Id.base]) m' W h0
         | r nn i' j' =>
          obtain ⟨an,_,⟨_,rfl⟩|⟨_,_,_,_,rfl⟩⟩:=xlZ Y
          . cases hc
          . rw [xut,xbQ] at hc;cases hc
        | false =>
        have aj:xIw id.base (off+i) j bx.ty ((bx.xs.getD (off+i) .top).cells.getD j .top)=(bx.xs.getD (off+i) .top).cells.getD j .top:=by unfold xIw;rw [Q]
        have ak:MV M bx j=MP M bx.pm:=by unfold MV;rw [Q]
        rw [aj,ak] at h4;by_cases J:bx.pm=true
        . rw [e0 J,hg i (by omega)]
          rw [J] at h4;exact h4.mono (fun _ _ _=>rfl) (zd _) hA (MExt.refl _)
        . have h5:=e3 J i j (by rw [aa];omega) hj
          rw [hg i (by omega)] at h5
          refine xcV hR hA n _ _ _ h4.unmp h5 fun k hk m' W=>?_
          have ag:bx.xs.getD (off+i) .top∈(bx.xs.drop off).take len:=by rw [<-hg i (by omega)];exact xaI (by omega)
          refine hid k (List.mem_cons_of_mem _ (xBe Y J ag ?_ hk)) m' W;have hl:=xaw (q.ok _ (xaI (show off+i<bx.xs.length by omega)))
          exact xaI (by omega))
      rw [e1] at this;exact this
  . simp at h
end
end Go.Sim
namespace Go.Sim
open Go.RowKit
def xIK (H:List Box) (sz:Nat):AV->Option (List AV×Bool)
 | .nils=>some ([],true)
 | .list sz' xs=>if sz'=sz then some (xs,true) else none
 | .osl id ver off len=>match xIb H id ver with
  | some bx=>if bx.sz=sz/\off+len<=bx.xs.length/\isC bx.ty=false then some ((bx.xs.drop off).take len,bx.pm) else none
  | none=>none
 | _=>none
def putCells (e:AV) (j n sz:Nat) (v:AV):AV:=if j=0/\n=sz then v else .agg (e.cells.take j++v.cells++e.cells.drop (j+n))
def absSrc (P:Program) (H:List Box) (t tt e:TypeId) (sz:Nat) (x:AV):Option (List AV×Bool) :=
 if t=tt then xIK H sz x else
  match xH7 P tt,xH7 P e,x with
  | some tj,some te,.str s=>match tj.d,te.d with
   | .string,.int .u8=>if te.sz=1 then some (s.map fun (u:UInt8)=>.int .u8 u.toNat,true) else none
   | _,_=>none
  | _,_,_=>none
def absApp (H:List Box) (e:TypeId) (te:TI) (s:AV) (ys:List AV) (pm:Bool):Option (AV×List Box) :=
 match s with
 | .nils=>if 0<te.sz/\ys.length*te.bytes<=140737488355328/\ys.length<=xIX/\te.zero.okElem te.sz=true then some (.osl H.length 0 0 ys.length,H++[⟨0,te.sz,e,ys,false,pm⟩]) else none
 | .osl (.b id) ver off len=>match xIb H id ver with
  | some bx=>if off=0/\len=bx.xs.length/\bx.frz=false/\bx.sz=te.sz/\bx.ty=e/\0<te.sz/\(len+ys.length)*te.bytes<=140737488355328/\len+ys.length<=xIX/\te.zero.okElem te.sz=true then
   some (.osl id (ver+1) 0 (len+ys.length),H.set id ⟨ver+1,te.sz,e,bx.xs++ys,false,bx.pm&&pm⟩) else none
  | none=>none
 | _=>none
def xJb (P:Program) (H:List Box) (t tt:TypeId) (s x:AV):Option (AV×List Box) :=
 match xH7 P t with
 | some ti=>match ti.d with
  | .slice e=>match xH7 P e with
   | some te=>match absSrc P H t tt e te.sz x with
    | some (ys,pm)=>absApp H e te s ys pm
    | none=>none
   | none=>none
  | _=>none
 | none=>none
def absStore (P:Program) (H:List Box) (t:TypeId) (a v:AV):Option (List Box) :=
 match xH7 P t,a with
 | some ti,.own (.b id) ver i j=>match xIb H id ver with
  | some bx=>match bx.xs[i]? with
   | some e=>if bx.frz=false/\v.okElem ti.sz=true/\j+ti.sz<=bx.sz/\isC bx.ty=false then some (H.set id ⟨ver,bx.sz,bx.ty,bx.xs.set i (putCells e j ti.sz bx.sz v),false,bx.pm&&v.pure⟩) else none
   | none=>none
  | none=>none
 | _,_=>none
def xhX (l:List AV):(AV.agg l).cells=l:=rfl
def xIx (l:List Value) (o:Nat) (vs:List Value):List Value:=l.take o++vs++l.drop (o+vs.length)
def xhz {l:List Value} {o:Nat} {vs:List Value} (h:o+vs.length<=l.length) (k:Nat) :
 (xIx l o vs).getD k undef=if o<=k/\k<o+vs.length then vs.getD (k - o) undef else l.getD k undef:=by unfold xIx;grind
def xjC {l:List Value} {o:Nat} {vs:List Value} (h:o+vs.length<=l.length):(xIx l o vs).length=l.length:=by
 simp [xIx];omega
section
variable {P : Program} {w : World} {A : Nat -> Prop} {M : Id -> Option MB} {B : Nat} {H : List Box}
def xfo (l:List Value) (k:Nat):l.toArray.getD k undef=l.getD k undef:=by simp [z7,zv]
def xdl (c:Array Value) (k:Nat):c.toList.getD k undef=c.getD k undef:=by simp [z7,zv]
def MSet (M:Id->Option MB) (id:Id) (m:MB):Id->Option MB:=fun i=>if i=id then some m else M i
def xm9 {id:Id} {m m':MB} (hm:M id=some m) (h:m'=m\/m.ver<m'.ver):MExt M (MSet M id m'):=fun i m1 h1=>by
 by_cases hi:i=id
 . subst hi;rw [hm] at h1;cases h1;exact ⟨m',by simp [MSet],h⟩
 . exact ⟨m1,by simp [MSet,hi,h1],.inl rfl⟩
def Touch (w w':World) (M M':Id->Option MB):Prop :=
 (∀ b,b<w.heap.size->(∀ id m,M id=some m->0<m.cap->m.b≠b)->w'.heap[b]?=w.heap[b]?) /\
 ∀ id m',M' id=some m'->0<m'.cap->(∃ i m,M i=some m/\0<m.cap/\m'.b=m.b)\/w.heap.size<=m'.b
def Touch.of_new {w w':World} {M M':Id->Option MB} (hb:Below w.heap.size w w') (h:∀ id m,M' id=some m->M id=some m\/w.heap.size<=m.b):Touch w w' M M' :=
 ⟨fun b h _=>hb.block b h,fun id m' hm h0=>(h id m' hm).imp (fun h=>⟨id,m',h,h0,rfl⟩) (fun h=>h)⟩
def xbG (H:List Box) (n:Nat):getB H (.b n)=H[n]?:=rfl
def xjX {id:Id} {bx:Box} (hb:getB H id=some bx):id.base<H.length:=by
 cases id with
 | b n=>rw [xbG] at hb;exact xcP hb
 | r n i j =>
  obtain ⟨q,h,_⟩:=xlZ hb;exact xcP h
def xq9 {id:Id} {bx:Box} {l:List Box} (hb:getB H id=some bx):getB (H++l) id=some bx:=by
 rw [<-hb];exact xkw (zP (xjX hb))
def xwE {n:Nat} {j:Id} {bx':Box} (h:j.base≠n):getB (H.set n bx') j=getB H j :=
 xkw (by rw [zY (Ne.symm h)])
def xc6 {n:Nat} {bx bx':Box} (hb:H[n]?=some bx) (D:isC bx.ty=false) (q:isC bx'.ty=false) {j:Id} (hne:j≠.b n):getB (H.set n bx') j=getB H j:=by
 by_cases hj:j.base=n
 . cases j with
   | b k=>exact absurd (by rw [<-hj];rfl) hne
   | r k i l =>
    simp only [Id.base] at hj;subst hj;rw [xei hb D,xei (zM (xcP hb)) q]
 . exact xwE hj
def xmQ (hR:HR w A M B H) {id:Nat} {m m':MB} {bx bx':Box} (q:0<m.cap) (hm:M (.b id)=some m) (hb:H[id]?=some bx) (J:BoxAt w A M B (.b id) m bx) (Z:isC bx.ty=false) (O:isC bx'.ty=false) (af:bx.frz=false) {c':Array Value}
  (e1:m'.b=m.b) (e2:m'.cap=m.cap) (e3:m'.sz=m.sz) (e4:m'.ty=m.ty) (e5:m'=m\/m.ver<m'.ver) (f1:bx'.ver=m'.ver) (f2:bx'.sz=m'.sz) (f3:bx'.ty=m'.ty) (f4:bx'.frz=false)
  (ab:bx'.xs.length<=m.cap) (ae:∀ x,x∈bx'.xs->x.okElem m.sz=true) (hsz:c'.size=m.cap*m.sz)
  (hc:∀ i j,i<bx'.xs.length->j<m.sz->Rel w A (MP M bx'.pm) (c'.getD (i*m.sz+j) undef) ((bx'.xs.getD i .top).cells.getD j .top)) :
  HR (w.setRow m.b c') A (MSet M (.b id) m') B (H.set id bx')/\MExt M (MSet M (.b id) m')/\(∀ b,b<w.heap.size->¬ A b->(w.setRow m.b c').heap[b]?=w.heap[b]?)/\Below B w (w.setRow m.b c')/\Touch w (w.setRow m.b c') M (MSet M (.b id) m')/\A m.b:=by
 have Y:A m.b:=(J.guard q).1 af;have V:MExt M (MSet M (.b id) m'):=xm9 hm e5;have hs:(w.setRow m.b c').heap.size=w.heap.size:=by simp [World.setRow]
 have hw:∀ b,b<w.heap.size->¬ A b->(w.setRow m.b c').heap[b]?=w.heap[b]?:=fun b _ hb=>setRow_other w m.b b c' fun e=>hb (e▸Y)
 obtain ⟨c,h1,h2,h3⟩:=J.cells q;have ac:xIa m.ty=false:=J.nomap (xaH Z)
 replace h1:=h1.plain ac
 refine ⟨⟨?_,?_,fun b hb=>by rw [hs];exact hR.lt b hb⟩,V,hw,⟨rfl,rfl,rfl,by rw [hs];exact zd _,fun k hk=>setRow_other w m.b k c' fun e=>by have:=J.low q;omega⟩,⟨fun b _ hb=>setRow_other w m.b b c' fun e=>hb (.b id) m hm q e.symm,fun i m1 D _=>?_⟩,Y⟩
 . intro i m1 D;by_cases hi:i=.b id
   . subst hi;have:m1=m':=by simp [MSet] at D;exact D.symm
     subst this;refine ⟨bx',by rw [xbG,zM (xcP hb)],⟨f1,f2,by rw [xbJ O];exact f3,by rw [e2];exact J.capm,by rw [e2];exact ab,by rw [e3];exact ae,fun _=>by rw [e1];exact J.low q,fun _=>by rw [e1,hs];exact J.lt q,fun _=>⟨c',.of (by rw [e4];exact ac) (by rw [e1,e4];exact setRow_heap w m.b c c' m.ty (0,0) h1),by rw [e2,e3];exact hsz,?_⟩,fun _=>⟨fun _=>by rw [e1];exact Y,fun _=>f4⟩⟩⟩
     intro i j hi hj;rw [e3] at hj |-;rw [xar O,xax O];exact (hc i j hi hj).mono hw (by rw [hs];exact zd _) (fun b _ h=>h) (xqM V _)
   . have aa:M i=some m1:=by simpa [MSet,hi] using D
     obtain ⟨ad,g1,g2⟩:=hR.box i m1 aa;have hne:0<m1.cap->m1.b≠m.b:=fun h0 e=>hi (hR.inj i (.b id) m1 m aa hm h0 q e)
     exact ⟨ad,by rw [xc6 hb Z O hi];exact g1,g2.mono (fun h0=>setRow_other w m.b m1.b c' (hne h0)) hw (by rw [hs];exact zd _) (fun b _ h=>h) g2.guard V⟩
 . intro i i' m1 m2 D W c1 c2 he;by_cases hi:i=.b id<;>by_cases Q:i'=.b id
   . rw [hi,Q]
   . have g1:m1=m':=by simp [MSet,hi] at D;exact D.symm
     have g2:M i'=some m2:=by simpa [MSet,Q] using W
     rw [hi];exact hR.inj (.b id) i' m m2 hm g2 q c2 (by rw [<-he,g1,e1])
   . have g1:m2=m':=by simp [MSet,Q] at W;exact W.symm
     have g2:M i=some m1:=by simpa [MSet,hi] using D
     rw [Q];exact hR.inj i (.b id) m1 m g2 hm c1 q (by rw [he,g1,e1])
   . exact hR.inj i i' m1 m2 (by simpa [MSet,hi] using D) (by simpa [MSet,Q] using W) c1 c2 he
 . by_cases hi:i=.b id
   . have g1:m1=m':=by simp [MSet,hi] at D;exact D.symm
     exact .inl ⟨.b id,m,hm,q,by rw [g1,e1]⟩
   . rename_i h0;exact .inl ⟨i,m1,by simpa [MSet,hi] using D,h0,rfl⟩
def xAn (hR:HR w A M B H) {id:Nat} {m m':MB} {bx bx':Box} (O:m.cap=0) (hm:M (.b id)=some m) (hb:H[id]?=some bx) (Y:isC bx.ty=false) (D:isC bx'.ty=false)
  (e2:m'.cap=m.cap) (e3:m'.sz=m.sz) (e5:m'=m\/m.ver<m'.ver) (f1:bx'.ver=m'.ver) (f2:bx'.sz=m'.sz) (f3:bx'.ty=m'.ty) (f5:bx'.xs=[]) :
  HR w A (MSet M (.b id) m') B (H.set id bx')/\MExt M (MSet M (.b id) m')/\Touch w w M (MSet M (.b id) m'):=by
 have J:MExt M (MSet M (.b id) m'):=xm9 hm e5;have hc:∀ {p:Prop},0<m'.cap->p:=fun h=>absurd h (by omega)
 refine ⟨⟨?_,?_,hR.lt⟩,J,⟨fun _ _ _=>rfl,fun i m1 q h0=>?_⟩⟩
 . intro i m1 q;by_cases hi:i=.b id
   . subst hi;have:m1=m':=by simp [MSet] at q;exact q.symm
     subst this;exact ⟨bx',by rw [xbG,zM (xcP hb)],⟨f1,f2,by rw [xbJ D];exact f3,by rw [e2,O];exact zR _,by rw [f5];exact zR _,by rw [f5];simp,hc,hc,hc,hc⟩⟩
   . have Z:M i=some m1:=by simpa [MSet,hi] using q
     obtain ⟨W,g1,g2⟩:=hR.box i m1 Z;exact ⟨W,by rw [xc6 hb Y D hi];exact g1,g2.mono (fun _=>rfl) (fun _ _ _=>rfl) (zd _) (fun b _ h=>h) g2.guard J⟩
 . intro i i' m1 m2 q Q c1 c2 he;by_cases hi:i=.b id
   . have g1:m1=m':=by simp [MSet,hi] at q;exact q.symm
     rw [g1] at c1;exact hc c1
   . by_cases V:i'=.b id
     . have g1:m2=m':=by simp [MSet,V] at Q;exact Q.symm
       rw [g1] at c2;exact hc c2
     . exact hR.inj i i' m1 m2 (by simpa [MSet,hi] using q) (by simpa [MSet,V] using Q) c1 c2 he
 . by_cases hi:i=.b id
   . have g1:m1=m':=by simp [MSet,hi] at q;exact q.symm
     rw [g1] at h0;exact hc h0
   . exact .inl ⟨i,m1,by simpa [MSet,hi] using q,h0,rfl⟩
def Writes (P:Program) (o:Oper) (ρc:Operand->Value) (w:World) (A:Nat->Prop) (M:Id->Option MB) (B:Nat) (x:AV) (H':List Box):Prop :=
 ∃ n w' A' M' v,(execOp ρc o).run P w=.ok n w'/\((n=.value v)\/(n=.skip/\v=undef))/\Below B w w'/\MExt M M'/\(∀ b,b<w.heap.size->(A' b↔A b))/\(∀ b,b<w.heap.size->¬ A b->w'.heap[b]?=w.heap[b]?)/\Touch w w' M M'/\HR w' A' M' B H'/\Rel w' A' M' v x
def xAp {v:Value} {x:AV} (h:Rel w A M v x) (hx:x.cells.all AV.one=true):∀ u,u∈v.cells.toList->u.oneCell'=true:=by
 intro u hu;obtain ⟨h1,h2⟩:=h.cells hx;obtain ⟨i,hi,rfl⟩:=zq.1 hu;have hi':i<x.cells.length:=by simp at hi;omega
 have:=h2 i hi';have e:v.cells.getD i undef=v.cells.toList[i]:=by simp at hi;simp [hi]
 rw [e] at this;refine this.oneCell ?_;rw [zJ] at hx;exact hx _ (xaI hi')
def xwY (hR:HR w A M B H) {o:Oper} {ρc:Operand->Value} {t:TypeId} {oa ov:Operand} {xa xv:AV} {H':List Box} (ho:o.op=.store t oa ov) (ha:Rel w A M (ρc oa) xa) (hv:Rel w A M (ρc ov) xv) (h:absStore P H t xa xv=some H') :
  Writes P o ρc w A M B (.tuple []) H':=by
 unfold absStore at h;split at h
 case h_2=>simp at h
 rename_i ti id ver i j au;split at h
 case h_2=>simp at h
 rename_i bx ah;split at h
 case h_2=>simp at h
 rename_i e he;split at h
 case isFalse=>simp at h
 rename_i ap;obtain ⟨ao,ac,az,J⟩:=ap;cases h;obtain ⟨m,hm,q,aw⟩:=xkQ hR ha ah;obtain ⟨ax,an⟩:=xaJ ah;have O:0<m.cap:=by
  have:=q.fits;have:0<bx.xs.length:=List.length_pos_of_mem (List.mem_of_getElem? he);omega
 obtain ⟨c,h1,h2,h3⟩:=q.cells O
 replace h1:=h1.plain (q.nomap (xaH J))
 replace h3:∀ i j,i<bx.xs.length->j<m.sz->Rel w A (MP M bx.pm) (c.getD (i*m.sz+j) undef) ((bx.xs.getD i .top).cells.getD j .top):=fun i j hi hj=>by
  have:=h3 i j hi hj;rw [xar J,xax J] at this;exact this
 have hty':bx.ty=m.ty:=by rw [<-q.ty,xbJ J]
 have aj:=xaw ac;have D:=xa1 ac;have ai:=xrx hv D;have ad:(ρc ov).cells.size=ti.sz:=by have:=ai.1;simp at this;omega
 have hi:i<bx.xs.length:=by
  rcases zK i bx.xs.length with h'|h'
  . exact h'
  . simp [zA h'] at he
 have aq:bx.xs.getD i .top=e:=by simp [z7,he]
 have a0:=xaw (q.ok e (List.mem_of_getElem? he));have hsz:=q.sz;have al:i*m.sz+m.sz<=c.size:=by
  rw [h2];have:(i+1)*m.sz<=m.cap*m.sz:=Nat.mul_le_mul_right _ (Nat.le_trans hi q.fits);rw [Nat.add_mul,Nat.one_mul] at this;exact this
 have Y:i*m.sz+j+(ρc ov).cells.toList.length<=c.toList.length:=by simp;omega
 have Q:(putCells e j ti.sz bx.sz xv).cells.length=m.sz/\(∀ k,k<m.sz->(putCells e j ti.sz bx.sz xv).cells.getD k .top=if j<=k/\k<j+ti.sz then xv.cells.getD (k - j) .top else e.cells.getD k .top)/\(putCells e j ti.sz bx.sz xv).cells.all AV.one=true:=by
  unfold putCells;split
  . rename_i hw;obtain ⟨rfl,hw⟩:=hw;exact ⟨by omega,fun k hk=>by rw [if_pos (by omega)];simp,D⟩
  . have ag:min j e.cells.length=j:=by omega
    refine ⟨by rw [xhX];simp;omega,fun k hk=>?_,?_⟩
    . simp only [xhX,zx,z7,zQ,zu,ag];by_cases Z:k<j
      . simp [Z,List.getElem?_take,show ¬ j<=k by omega]
      . by_cases ae:k<j+ti.sz
        . simp [Z,aj,show k - j<ti.sz by omega,ae,show j<=k by omega]
        . simp only [Z,if_false,aj,show ¬ (k - j<ti.sz) by omega,ae,and_false,List.getElem?_drop]
          congr 2;omega
    . have h5:=xa1 (q.ok e (List.mem_of_getElem? he));rw [zJ] at h5 D;simp only [xhX,List.all_append,zg,zJ];exact ⟨⟨fun x hx=>h5 x (List.mem_of_mem_take hx),D⟩,fun x hx=>h5 x (List.mem_of_mem_drop hx)⟩
 have af:=run_storeCells_at P m.b (i*m.sz+j) m.ty (ρc ov).cells.toList 0 c w h1 (by simp;omega) (xAp hv D)
 simp only [Nat.add_zero] at af;obtain ⟨g1,g2,g3,g4,gt,g5⟩:=xmQ (m':=m) (bx':=⟨ver,bx.sz,bx.ty,bx.xs.set i (putCells e j ti.sz bx.sz xv),false,bx.pm&&xv.pure⟩) hR O hm ax q J J ao (c':=(xIx c.toList (i*m.sz+j) (ρc ov).cells.toList).toArray) rfl rfl rfl rfl (.inl rfl)
  (by rw [<-q.ver,<-an]) hsz hty' rfl (by simpa using q.fits)
  (fun x hx=>by
   rcases List.mem_or_eq_of_mem_set hx with hx|rfl
   . exact q.ok x hx
   . simp only [AV.okElem,Q.1,beq_self_eq_true,Bool.true_and];exact Q.2.2)
  (by have:=xjC Y;simp at this |-;omega)
  (fun i' j' V W=>by
   simp at V;rw [xfo,xhz Y];have ab:(ρc ov).cells.toList.length=ti.sz:=by simpa using ad
   by_cases ak:i'=i
   . subst ak;have e1:(bx.xs.set i' (putCells e j ti.sz bx.sz xv)).getD i' .top=putCells e j ti.sz bx.sz xv:=by simp [z7,V]
     rw [e1,Q.2.1 j' W,ab];by_cases aa:j<=j'/\j'<j+ti.sz
     . rw [if_pos (by omega),if_pos aa,show i'*m.sz+j' - (i'*m.sz+j)=j' - j by omega]
       exact (ai.2 _ (by omega)).mp fun hp=>xe1 (xkR (zg _ _▸hp).2) _
     . rw [if_neg (by omega),if_neg aa,xdl]
       have:=h3 i' j' V W;rw [aq] at this;exact this.mp_and
   . have e1:(bx.xs.set i (putCells e j ti.sz bx.sz xv)).getD i' .top=bx.xs.getD i' .top:=by simp [z7,List.getElem?_set,show ¬ i=i' from fun h=>ak h.symm]
     rw [e1,ab,if_neg,xdl]
     . exact (h3 i' j' V W).mp_and
     . intro aa;rcases zK i' i with am|ay
       . have:i'*m.sz+j'<i*m.sz:=xdP am W;omega
       . have h6:(i+1)*m.sz<=i'*m.sz:=Nat.mul_le_mul_right _ (by omega)
         rw [Nat.add_mul,Nat.one_mul] at h6;omega)
 refine ⟨.skip,_,A,_,undef,?_,.inr ⟨rfl,rfl⟩,g4,g2,fun _ _=>Iff.rfl,g3,gt,g1,.tuple #[] [] rfl (by simp)⟩
 simp only [execOp,ho,aw,Instr.storeAt,Instr.sureAddr,storeVar,Sem.run_bind,Sem.run_pure,Result.andThen_ok,xcx au,ad,ne_eq,not_true,if_false];rw [af];rfl
end
end Go.Sim
namespace Go.Sim
open Go.RowKit
section
variable {P : Program} {w : World} {A : Nat -> Prop} {M : Id -> Option MB} {B : Nat} {H : List Box}
def xtb (hR:HR w A M B H) {sz:Nat} {v:Value} {x:AV} {ys:List AV} {pm:Bool} (hx:Rel w A M v x) (h:xIK H sz x=some (ys,pm)) :
  (ys=[]/\∃ a c,v=.slice a 0 c)\/∃ b o c,v=.slice (some ⟨b,o,none⟩) ys.length c/\(∀ y,y∈ys->y.okElem sz=true) /\
   ∀ i j,i<ys.length->j<sz->∃ u,w.cell? ⟨b,o+(i*sz+j),none⟩=some u/\Rel w A (MP M pm) u ((ys.getD i .top).cells.getD j .top):=by
 unfold xIK at h;split at h
 . simp only [z6,zb] at h;obtain ⟨rfl,rfl⟩:=h;cases hx;exact .inl ⟨rfl,none,0,rfl⟩
 . split at h
   case isFalse=>simp at h
   rename_i hs;subst hs;simp only [z6,zb] at h;obtain ⟨rfl,rfl⟩:=h;cases hx with
   | list0 a cap _=>exact .inl ⟨rfl,a,cap,rfl⟩
   | list b off cap _ _ val ha hb hne hcap hsz hc hr =>
    exact .inr ⟨b,off,cap,rfl,hsz,fun i j hi hj=>⟨val i j,by rw [<-Nat.add_assoc];exact hc i j hi hj,hr i j hi hj⟩⟩
 . rename_i id ver off len;split at h
   case h_2=>simp at h
   rename_i bx V;split at h
   case isFalse=>simp at h
   rename_i Q;obtain ⟨hsz,Z,J⟩:=Q;simp only [z6,zb] at h;obtain ⟨rfl,rfl⟩:=h;obtain ⟨m,a,hm,q,Y,rfl,ha⟩:=xil hR hx V;have O:m.sz=sz:=by rw [<-q.sz,hsz]
   have D:((bx.xs.drop off).take len).length=len:=by simp;omega
   by_cases hz:len=0
   . subst hz;exact .inl ⟨by simp,a,_,rfl⟩
   . have W:=ha (by omega);subst W
     refine .inr ⟨m.b,off*m.sz,m.cap - off,by rw [D],fun y hy=>by rw [<-O];exact q.ok y (List.mem_of_mem_drop (List.mem_of_mem_take hy)),fun i j hi hj=>?_⟩
     rw [D] at hi;rw [<-O] at hj |-;have:=q.cell' (q.nomap (xaH J)) (show off+i<bx.xs.length by omega) hj
     rw [xar J,xax J] at this;rw [Nat.add_mul,Nat.add_assoc] at this;have hg:((bx.xs.drop off).take len).getD i .top=bx.xs.getD (off+i) .top:=by
      simp [z7,List.getElem?_take,hi,List.getElem?_drop]
     rwa [hg]
 . simp at h
def xn0 {t ty e:TypeId} {i:TypeInfo} (ht:P.underlying t=some (.slice e)) (hi:P.info? e=some i) (b:Option Addr) (len cap:Nat) (q:len<=cap) (a:Option Addr) (c:Nat) :
  (Builtin.append_ #[t,t] ty #[.slice b len cap,.slice a 0 c]).run P w=.ok (.slice b len cap) w:=by
 cases a<;>cases b<;>simp [Builtin.append_,run_underlying ht,sizeOf,typeInfo,hi,Builtin.lenOf,Builtin.firstCells,loadCells,loadCellsFrom,q,storeCells]
def xIy (w:World) (b o n:Nat):List Value:=(List.range n).map fun k=>(w.cell? ⟨b,o+k,none⟩).getD undef
def xgP (w:World) (b o n:Nat):(xIy w b o n).length=n:=by simp [xIy]
def xuY {b o n k:Nat} (hk:k<n):(xIy w b o n).getD k undef=(w.cell? ⟨b,o+k,none⟩).getD undef:=by
 simp [xIy,z7,hk]
def xtR {k n sz:Nat} (hk:k<n*sz):k / sz<n:=Nat.div_lt_of_lt_mul (by rwa [Nat.mul_comm])
section src
variable {ys : List AV} {sz b o : Nat} (hsz : 0 < sz) (hs : ∀ i j, i < ys.length -> j < sz -> ∃ u, w.cell? ⟨b, o + (i * sz + j), none⟩ = some u /\ Rel w A M u ((ys.getD i .top).cells.getD j .top))
include hsz hs
def xwc {k:Nat} (hk:k<ys.length*sz):∃ u,w.cell? ⟨b,o+k,none⟩=some u/\Rel w A M u ((ys.getD (k / sz) .top).cells.getD (k % sz) .top):=by
 have:=hs (k / sz) (k % sz) (xtR hk) (Nat.mod_lt _ hsz);rwa [Nat.mul_comm,Nat.div_add_mod] at this
def xr8 (j:Nat) (u:Value) (h:(xIy w b o (ys.length*sz))[j]?=some u):w.cell? ((⟨b,o,none⟩:Addr).add j)=some u:=by
 have hj:j<ys.length*sz:=by
  rcases zK j (ys.length*sz) with h'|h'
  . exact h'
  . rw [zA (by rw [xgP];exact h')] at h;simp at h
 obtain ⟨u',hu,_⟩:=xwc hsz hs hj;rw [xfl,hu];simp [xIy,hj,hu] at h;rw [h]
omit hsz in
def xEn {i j:Nat} (hi:i<ys.length) (hj:j<sz):Rel w A M ((xIy w b o (ys.length*sz)).getD (i*sz+j) undef) ((ys.getD i .top).cells.getD j .top):=by
 obtain ⟨u,hu,hr⟩:=hs i j hi hj;rw [xuY (xdP hi hj),hu];exact hr
def xEm (q:∀ y,y∈ys->y.okElem sz=true):∀ u,u∈xIy w b o (ys.length*sz)->u.oneCell'=true:=by
 intro u hu;obtain ⟨k,hk,rfl⟩:=zq.1 hu;have hk':k<ys.length*sz:=by rwa [xgP] at hk
 obtain ⟨u',D,hr⟩:=xwc hsz hs hk';have e:(xIy w b o (ys.length*sz))[k]=u':=by simp [xIy,D]
 rw [e];have hi:=xtR hk';have h1:=xa1 (q _ (xaI hi));have hl:=xaw (q _ (xaI hi));rw [zJ] at h1;exact hr.oneCell (h1 _ (xaI (by rw [hl];exact Nat.mod_lt _ hsz)))
end src
def xsg {xs ys:List AV} {c:List Value} {sz:Nat} {news:List Value} (hn:news.length=ys.length*sz)
  (J:∀ i j,i<xs.length->j<sz->Rel w A M (c.getD (i*sz+j) undef) ((xs.getD i .top).cells.getD j .top))
  (O:∀ i j,i<ys.length->j<sz->Rel w A M (news.getD (i*sz+j) undef) ((ys.getD i .top).cells.getD j .top))
  {c':List Value} (h1:∀ k,k<xs.length*sz->c'.getD k undef=c.getD k undef) (h2:∀ k,k<ys.length*sz->c'.getD (xs.length*sz+k) undef=news.getD k undef) :
  ∀ i j,i<(xs++ys).length->j<sz->Rel w A M (c'.getD (i*sz+j) undef) (((xs++ys).getD i .top).cells.getD j .top):=by
 intro i j hi hj;by_cases q:i<xs.length
 . have e:(xs++ys).getD i .top=xs.getD i .top:=by simp [z7,zQ,q]
   rw [e,h1 _ (xdP q hj)];exact J i j q hj
 . have e:(xs++ys).getD i .top=ys.getD (i - xs.length) .top:=by simp [z7,zQ,q]
   have D:i - xs.length<ys.length:=by simp at hi;omega
   have e2:i*sz+j=xs.length*sz+((i - xs.length)*sz+j):=by
    rw [<-Nat.add_assoc,<-Nat.add_mul,show xs.length+(i - xs.length)=i by omega]
   rw [e,e2,h2 _ (xdP D hj)];exact O _ j D hj
def xpz {xs ys:List AV} {sz:Nat} (hx:∀ x,x∈xs->x.okElem sz=true) (hy:∀ x,x∈ys->x.okElem sz=true):∀ x,x∈xs++ys->x.okElem sz=true:=fun x q=>by
 rcases zH.1 q with h|h
 . exact hx x h
 . exact hy x h
def HR.drew (hR:HR w A M B H):HR w.drew A M B H:=hR.grow ⟨rfl,rfl,rfl,zd _,fun _ _=>rfl⟩
def HR.ext {H':List Box} (hR:HR w A M B H) (h:∀ n,n<H.length->(∃ id m,id.base=n/\M id=some m)->H'[n]?=H[n]?):HR w A M B H' :=
 ⟨fun id m hm=>by
  obtain ⟨bx,h1,h2⟩:=hR.box id m hm;exact ⟨bx,by rw [xkw (h id.base (xjX h1) ⟨id,m,rfl,hm⟩)];exact h1,h2⟩,hR.inj,hR.lt⟩
def HR.append (hR:HR w A M B H) (l:List Box):HR w A M B (H++l) :=
 hR.ext fun n hn _=>zP hn
def HR.none_of_base (hR:HR w A M B H) {id:Id} (h:H.length<=id.base):M id=none:=by
 cases hm:M id with
 | none=>rfl
 | some m =>
  obtain ⟨bx,h1,_⟩:=hR.box id m hm;have:=xjX h1;omega
def HR.none_of_length (hR:HR w A M B H) {n:Nat} (h:H.length<=n):M (.b n)=none:=hR.none_of_base (id:=.b n) h
def HR.free_of_length (hR:HR w A M B H) {n:Nat} (h:H.length<=n):Free M n:=⟨hR.none_of_base (id:=.b n) h,fun i j=>hR.none_of_base (id:=.r n i j) h⟩
set_option maxHeartbeats 1000000 in
structure Mv (w:World) (A:Nat->Prop) (M:Id->Option MB) (w':World) (A':Nat->Prop) (M':Id->Option MB):Prop where
 size:w.heap.size<=w'.heap.size
 keep:∀ b,b<w.heap.size->¬ A b->w'.heap[b]?=w.heap[b]?
 less:∀ b,b<w.heap.size->A' b->A b
 more:∀ b,b<w.heap.size->A b->(∀ id m,M id=some m->0<m.cap->m.b≠b)->A' b
 ext:MExt M M'
 touch:Touch w w' M M'
def Mv.rel {w w':World} {A A':Nat->Prop} {M M':Id->Option MB} (h:Mv w A M w' A' M') {v:Value} {x:AV} (hr:Rel w A M v x):Rel w' A' M' v x :=
 hr.mono h.keep h.size h.less h.ext
def HR.virt {w:World} {A:Nat->Prop} {M:Id->Option MB} {B:Nat} {H:List Box} (hR:HR w A M B H) (sz:Nat) (ty:TypeId) (pm:Bool) :
  HR w A (MPut M H.length ⟨0,0,sz,0,rty ty⟩) B (H++[⟨0,sz,ty,[],false,pm⟩])/\Mv w A M w A (MPut M H.length ⟨0,0,sz,0,rty ty⟩)/\∀ a,Rel w A (MPut M H.length ⟨0,0,sz,0,rty ty⟩) (.slice a 0 0) (.osl H.length 0 0 0):=by
 have hn:Free M H.length:=hR.free_of_length (zd _);have J:MExt M (MPut M H.length ⟨0,0,sz,0,rty ty⟩):=xlt hn _;have q:∀ id m',MPut M H.length ⟨0,0,sz,0,rty ty⟩ id=some m'->0<m'.cap->M id=some m':=fun id m' hm h0=>by
  by_cases D:id=.b H.length
  . subst D;simp [MPut] at hm;subst hm;exact absurd h0 (by simp)
  . simpa [MPut,D] using hm
 refine ⟨⟨fun id m' O=>?_,fun id id' m1 m2 h1 h2 c1 c2 he=>hR.inj id id' m1 m2 (q id m1 h1 c1) (q id' m2 h2 c2) c1 c2 he,hR.lt⟩,⟨zd _,fun _ _ _=>rfl,fun _ _ h=>h,fun _ _ h _=>h,J,⟨fun _ _ _=>rfl,fun id m' hm h0=>.inl ⟨id,m',q id m' hm h0,h0,rfl⟩⟩⟩,fun a=>?_⟩
 . by_cases D:id=.b H.length
   . subst D;have:m'=⟨0,0,sz,0,rty ty⟩:=by simp [MPut] at O;exact O.symm
     subst this;have hc:∀ {p:Prop},0<(0:Nat)->p:=fun h=>absurd h (by simp)
     exact ⟨⟨0,sz,ty,[],false,pm⟩,by simp [getB],rfl,rfl,rfl,zR _,zR _,fun x hx=>by simp at hx,hc,hc,hc,hc⟩
   . have Q:M id=some m':=by simpa [MPut,D] using O
     obtain ⟨bx,g1,g2⟩:=hR.box id m' Q;exact ⟨bx,xq9 g1,g2.mono (fun _=>rfl) (fun _ _ _=>rfl) (zd _) (fun _ _ h=>h) g2.guard J⟩
 . exact .osl _ H.length 0 0 0 ⟨0,0,sz,0,rty ty⟩ (by simp [MPut]) (zd _) rfl fun _=>⟨by simp,a,by simp,fun h=>by simp at h⟩
structure ARuns (P:Program) (w:World) (t tt ty e:TypeId) (i:TypeInfo) (z v:Value) (n:Nat) (news:List Value):Prop where
 nil:(n:Int)<=9223372036854775807->n*i.bytes<=281474976710656->(Builtin.append_ #[t,tt] ty #[.slice none 0 0,v]).run P w =
  .ok (.slice (some ⟨w.heap.size,0,none⟩) n (grownCap w n 0 e)) (w.drew.alloc (.cells (news.toArray++Builtin.zeroCells z.cells (grownCap w n 0 e - n)) e))
 grow:∀ (b:Addr) (sLen sCap:Nat) (olds:List Value),olds.length=sLen*i.size->(∀ j u,olds[j]?=some u->w.cell? (b.add j)=some u)->sCap<sLen+n->((sLen+n:Nat):Int)<=9223372036854775807 ->
  Builtin.nextslicecap (sLen+n) sCap*i.bytes<=281474976710656->(Builtin.append_ #[t,tt] ty #[.slice (some b) sLen sCap,v]).run P w =
   .ok (.slice (some ⟨w.heap.size,0,none⟩) (sLen+n) (grownCap w (sLen+n) sCap e))
    (w.drew.alloc (.cells (olds.toArray++news.toArray++Builtin.zeroCells z.cells (grownCap w (sLen+n) sCap e - (sLen+n))) e))
 room:∀ (g sLen sCap:Nat) (cur:Array Value),w.heap[g]?=some (.cells cur e (0,0))->sLen+n<=sCap->sLen*i.size+news.length<=cur.size ->
  (Builtin.append_ #[t,tt] ty #[.slice (some ⟨g,0,none⟩) sLen sCap,v]).run P w =
   .ok (.slice (some ⟨g,0,none⟩) (sLen+n) sCap) (w.setRow g (cur.toList.take (sLen*i.size)++news++cur.toList.drop (sLen*i.size+news.length)).toArray)
def ASrc (P:Program) (w:World) (A:Nat->Prop) (M:Id->Option MB) (t tt ty e:TypeId) (sz:Nat) (v:Value) (ys:List AV) (pm:Bool):Prop :=
 (ys=[]/\∀ b len cap,len<=cap->(Builtin.append_ #[t,tt] ty #[.slice b len cap,v]).run P w=.ok (.slice b len cap) w) \/
 (0<ys.length/\(∀ y,y∈ys->y.okElem sz=true)/\∃ news:List Value,news.length=ys.length*sz /\
  (∀ i j,i<ys.length->j<sz->Rel w A (MP M pm) (news.getD (i*sz+j) undef) ((ys.getD i .top).cells.getD j .top)) /\
  ∀ i z,P.info? e=some i->i.zero=some z->i.size=sz->ARuns P w t tt ty e i z v ys.length news)
def xyx (hR:HR w A M B H) {t ty e:TypeId} {sz:Nat} (D:0<sz) (hu:P.underlying t=some (.slice e)) {i0:TypeInfo} (W:P.info? e=some i0) {v:Value} {x:AV} {ys:List AV} {pm:Bool} (hx:Rel w A M v x) (h:xIK H sz x=some (ys,pm)) :
  ASrc P w A M t t ty e sz v ys pm:=by
 rcases xtb hR hx h with ⟨he,a,cc,O⟩|⟨b,off,cc,O,V,q⟩
 . subst O;exact .inl ⟨he,fun b len cap Q=>xn0 hu W b len cap Q a cc⟩
 . subst O;rcases Nat.eq_zero_or_pos ys.length with J|J
   . rw [J];exact .inl ⟨zB J,fun b' len cap Q=>xn0 hu W b' len cap Q _ cc⟩
   . refine .inr ⟨J,V,xIy w b off (ys.length*sz),xgP _ _ _ _,fun i j hi hj=>xEn q hi hj,fun i z hi hz hs=>⟨fun h1 h2=>?_,fun b' sLen sCap olds h1 h2 h3 h4 h5=>?_,fun g sLen sCap cur h1 h2 h3=>?_⟩⟩
     . exact run_append_nil (P:=P) w t ty e i z hu hi hz ⟨b,off,none⟩ ys.length cc _ (by rw [xgP,hs]) (xr8 D q) J h1 h2
     . exact run_append_grow (P:=P) w t ty e i z hu hi hz b' sLen sCap olds h1 h2 ⟨b,off,none⟩ ys.length cc _ (by rw [xgP,hs]) (xr8 D q) h3 h4 h5
     . exact run_append_room (P:=P) w t ty e i hu hi g sLen sCap cur h1 ⟨b,off,none⟩ ys.length cc _ (by rw [xgP,hs]) (xr8 D q) (xEm D q V) h2 h3
def xoN (w:World) (t u ty e:TypeId) (i:TypeInfo) (z:Value) (ht:P.underlying t=some (.slice e)) (hu:P.underlying u=some .string) (hi:P.info? e=some i) (hz:i.zero=some z) (s:ByteArray)
  (h0:0<s.size) (D:(s.size:Int)<=9223372036854775807) (q:s.size*i.bytes<=281474976710656) :
  (Builtin.append_ #[t,u] ty #[.slice none 0 0,.string s]).run P w =
   .ok (.slice (some ⟨w.heap.size,0,none⟩) s.size (grownCap w s.size 0 e)) (w.drew.alloc (.cells ((Lib.strCells s).toArray++Builtin.zeroCells z.cells (grownCap w s.size 0 e - s.size)) e)):=by
 have hn:s.size≠0:=by omega
 have h63':¬ (9223372036854775807<(s.size:Int)):=by omega
 have h48':¬ (281474976710656<Builtin.nextslicecap s.size 0*i.bytes):=by rw [nextslicecap_zero h0];omega
 have hf:=Lib.run_firstCells_string (P:=P) w.drew i.size s;simp [Builtin.append_,run_underlying ht,run_underlying hu,sizeOf,typeInfo,zeroValue,hi,hz,Builtin.lenOf,hn,h63',h48',Question.forced,run_firstCells_none,hf,newRow,grownCap]
def xok {t u ty e:TypeId} {i:TypeInfo} (ht:P.underlying t=some (.slice e)) (hu:P.underlying u=some .string) (hi:P.info? e=some i) (b:Option Addr) (len cap:Nat) (q:len<=cap) (s:ByteArray) (h0:s.size=0) :
  (Builtin.append_ #[t,u] ty #[.slice b len cap,.string s]).run P w=.ok (.slice b len cap) w:=by
 have hf:=Lib.run_firstCells_string (P:=P) w i.size s;rw [h0] at hf;have he:Lib.strCells s=[]:=zB (by rw [Lib.strCells_length,h0])
 rw [he] at hf;cases b<;>simp [Builtin.append_,run_underlying ht,run_underlying hu,sizeOf,typeInfo,hi,Builtin.lenOf,h0,q,hf,storeCells]
def xBI {t tt ty e:TypeId} (hu:P.underlying t=some (.slice e)) (D:P.underlying tt=some .string) {i0:TypeInfo} (J:P.info? e=some i0) (s:ByteArray) :
  ASrc P w A M t tt ty e 1 (.string s) (s.data.toList.map fun (u:UInt8)=>.int .u8 u.toNat) true:=by
 have hsz:(s.data.toList.map fun (u:UInt8)=>AV.int .u8 u.toNat).length=s.size:=by rw [za,Array.length_toList];rfl
 rcases Nat.eq_zero_or_pos s.size with q|q
 . exact .inl ⟨zB (by rw [hsz,q]),fun b len cap Q=>xok hu D J b len cap Q s q⟩
 . refine .inr ⟨by rw [hsz];exact q,fun y hy=>?_,Lib.strCells s,by rw [Lib.strCells_length,hsz,Nat.mul_one],fun i j hi hj=>?_,fun i z hi hz hs=>⟨fun h1 h2=>?_,fun b' sLen sCap olds h1 h2 h3 h4 h5=>?_,fun g sLen sCap cur h1 h2 h3=>?_⟩⟩
   . obtain ⟨u,_,rfl⟩:=zL.1 hy;rfl
   . have O:j=0:=by omega
     subst O;rw [hsz] at hi;have hi':i<s.data.toList.length:=by rw [Array.length_toList];exact hi
     simp only [Nat.mul_one,Nat.add_zero,z7,List.getElem?_map,zf hi',Option.map_some,zi];have hc:(Lib.strCells s)[i]?=some (.int .u8 (s.data.toList[i].toNat:Int)):=by
      simp [Lib.strCells,List.getElem?_map,zf hi']
     rw [hc];exact .int _ _
   . rw [hsz] at h1 h2 |-;exact xoN w t tt ty e i z hu D hi hz s q h1 h2
   . rw [hsz] at h3 h4 h5 |-;exact Lib.run_append_grow_string (P:=P) w t tt ty e i z hu D hi hz b' sLen sCap olds h1 h2 s h3 h4 h5
   . rw [hsz] at h2 |-;rw [hs,Nat.mul_one,Lib.strCells_length] at h3 |-;exact Lib.run_append_room_string (P:=P) w t tt ty e i hu D hi hs g sLen sCap cur h1 s h2 h3
def xmV (hR:HR w A M B H) {t tt ty e:TypeId} {te:TI} (O:xH7 P e=some te) (D:0<te.sz) (hu:P.underlying t=some (.slice e)) {i0:TypeInfo} (J:P.info? e=some i0) {v:Value} {x:AV} {ys:List AV} {pm:Bool} (hx:Rel w A M v x) (h:absSrc P H t tt e te.sz x=some (ys,pm)) :
  ASrc P w A M t tt ty e te.sz v ys pm:=by
 unfold absSrc at h;split at h
 . rename_i Y;subst Y;exact xyx hR D hu J hx h
 . split at h
   case h_2=>simp at h
   rename_i tj aa s W q;split at h
   case h_2=>simp at h
   rename_i V Z;split at h
   case isFalse=>simp at h
   rename_i hsz;rw [O] at q;obtain rfl:=(z6 _ _).mp q;simp only [z6,zb] at h;obtain ⟨rfl,rfl⟩:=h;have Q:P.underlying tt=some .string:=by rw [xj8 W,V]
   cases hx with
   | str s =>
    rw [hsz];exact xBI hu Q J s
def xwt (hR:HR w A M B H) (hB:B<=w.heap.size) {o:Oper} {ρc:Operand->Value} {c:Call} {t tt e:TypeId} {te:TI} {os ox:Operand} {xs r:AV} {ys:List AV} {pm:Bool} {H':List Box} (ho:o.op=.call c) (b8:c.callee=.builtin .append)
  (ce:c.argTypes.toList=[t,tt]) (ch:c.args.toList=[os,ox]) (hs:Rel w A M (ρc os) xs) (b2:xH7 P e=some te) (hu:P.underlying t=some (.slice e))
  (am:∀ v,v=ρc ox->ASrc P w A M t tt o.type e te.sz v ys pm) (h:absApp H e te xs ys pm=some (r,H')) :
  Writes P o ρc w A M B r H':=by
 unfold absApp at h;obtain ⟨i,z,ay,cj,a4,ah,ba,bg,_⟩:=xa2 b2;have af:isC e=false:=xjk b2;have hts':c.argTypes=#[t,tt]:=by apply Array.ext';simpa using ce
 have has':c.args=#[os,ox]:=by apply Array.ext';simpa using ch
 have W:∀ v w',(Builtin.append_ #[t,tt] o.type #[ρc os,ρc ox]).run P w=.ok v w'->(execOp ρc o).run P w=.ok (.value v) w':=by
  intro v w' hv;simp [execOp,ho,resolve,b8,hts',has',invoke,builtin,hv,Go.resolve]
 replace am:=am _ rfl
 split at h
 ·
  have ab:ρc os=.slice none 0 0:=by
   generalize ρc os=v at hs;cases hs;rfl
  rw [ab] at W;split at h
  case isFalse=>simp at h
  rename_i bi;obtain ⟨bw,a8,be,aa⟩:=bi;simp only [z6,zb] at h;obtain ⟨rfl,rfl⟩:=h;rcases am with ⟨rfl,a0⟩|⟨b0,ac,news,Q,aq,O⟩
  . obtain ⟨g1,g2,g3⟩:=hR.virt te.sz e pm;exact ⟨_,w,A,_,.slice none 0 0,W _ _ (a0 none 0 0 (zd _)),.inl rfl,Below.refl _ _,g2.ext,fun _ _=>Iff.rfl,fun _ _ _=>rfl,g2.touch,g1,g3 none⟩
  have ck:ys.length<=4611686018427387904:=be;have a2:Rel w A M z te.zero:=by rw [bg];exact xcZ w A M z
  obtain ⟨b3,_⟩:=a2.cells (xa1 aa);have bp:=xaw aa;have q:=(O i z ay a4 ah.symm).nil (by omega) (by rw [<-ba];omega)
  have ad:=grownCap_ge w ys.length 0 e;have ae:=grownCap_le_maxLen w ys.length 0 e (by unfold maxLen;omega)
  generalize hcap:grownCap w ys.length 0 e=cap at q ad ae;have cl:H.length<(H++[(⟨0,te.sz,e,ys,false,pm⟩:Box)]).length:=by simp
  have hR':HR w.drew A M B (H++[⟨0,te.sz,e,ys,false,pm⟩]):=hR.drew.append _;have aj:(Builtin.zeroCells z.cells (cap - ys.length)).size=(cap - ys.length)*te.sz:=by rw [size_zeroCells];congr 1;omega
  have cb:=xmC (bx:=⟨0,te.sz,e,ys,false,pm⟩) (nid:=H.length) (c:=news.toArray++Builtin.zeroCells z.cells (cap - ys.length)) (cap:=cap) hR' (by simpa using hB) (hR.free_of_length (zd _)) af (by simp) ae
   (by rw [Array.size_append,List.size_toArray,Q,aj,<-Nat.add_mul];congr 1;omega) ad ac
   (fun i' j Z hj=>by
    have hk:i'*te.sz+j<ys.length*te.sz:=xdP Z hj;have e1:(news.toArray++Builtin.zeroCells z.cells (cap - ys.length)).getD (i'*te.sz+j) undef=news.getD (i'*te.sz+j) undef:=by
     simp only [zv,Array.getElem?_append,List.size_toArray,Q,hk,if_true,List.getElem?_toArray,z7]
    rw [e1];exact (aq _ _ Z hj).grow ⟨rfl,rfl,rfl,zd _,fun _ _=>rfl⟩)
  obtain ⟨s1,s2,s3,s4,s5⟩:=cb;have D:Below w.heap.size w (w.drew.alloc (.cells (news.toArray++Builtin.zeroCells z.cells (cap - ys.length)) e)):=((Below.refl _ _).drew).alloc (by simp) _
  exact ⟨_,_,_,_,_,W _ _ q,.inl rfl,D.mono hB,s1,s2,fun b hb _=>D.block b hb,.of_new D (fun id m' ao=>by
   by_cases b4:id=.b H.length
   . subst b4;exact s3.2 m' ao
   . rw [s3.1 id b4] at ao;exact .inl ao),s4,.osl _ H.length 0 0 ys.length _ s5 (zd _) rfl fun _=>⟨by simpa using ad,some ⟨w.heap.size,0,none⟩,by simp,fun _=>by simp⟩⟩
 . rename_i id ver off len;split at h
   case h_2=>simp at h
   rename_i bx bv;split at h
   case isFalse=>simp at h
   rename_i bi;obtain ⟨rfl,ag,b1,hsz,bt,bw,a8,be,aa⟩:=bi;simp only [z6,zb] at h;obtain ⟨rfl,rfl⟩:=h;have an:isC bx.ty=false:=by rw [bt];exact af
   obtain ⟨m,a,hm,V,bc,ab,ha⟩:=xil hR hs bv;obtain ⟨bb,cc⟩:=xaJ bv;simp only [Nat.sub_zero,zI] at ab bc;have al:m.sz=te.sz:=by rw [<-V.sz,hsz]
   have bj:m.ty=e:=by rw [<-V.ty,xbJ an,bt]
   have bl:m.ver=ver:=by rw [<-V.ver,cc]
   have ci:len+ys.length<=4611686018427387904:=be;have a3:∀ (c1:Array Value) (cap:Nat),c1.size=cap*te.sz->len+ys.length<=cap->cap<=maxLen->(∀ y,y∈ys->y.okElem te.sz=true) ->
     (∀ i j,i<(bx.xs++ys).length->j<te.sz->Rel w A (MP M (bx.pm&&pm)) (c1.getD (i*te.sz+j) undef) (((bx.xs++ys).getD i .top).cells.getD j .top)) ->
     (Builtin.append_ #[t,tt] o.type #[ρc os,ρc ox]).run P w=.ok (.slice (some ⟨w.heap.size,0,none⟩) (len+ys.length) cap) (w.drew.alloc (.cells c1 e)) ->
     Writes P o ρc w A M B (.osl id (ver+1) 0 (len+ys.length)) (H.set id ⟨ver+1,te.sz,e,bx.xs++ys,false,bx.pm&&pm⟩):=by
    intro c1 cap az ad ae ac b7 q;have D:Below w.heap.size w (w.drew.alloc (.cells c1 e)):=((Below.refl _ _).drew).alloc (by simp) _
    let m1:MB:=⟨w.heap.size,ver+1,te.sz,cap,e⟩;have a1:MExt M (MSet M id m1):=xm9 hm (.inr (by simp [m1,bl]))
    have hA:∀ b,b<w.heap.size->(APut A w.heap.size false b->A b):=fun b hb h=>by
     rcases h with h|⟨h,_⟩
     . exact h
     . omega
    have a5:∀ u x,Rel w A (MP M (bx.pm&&pm)) u x->Rel (w.drew.alloc (.cells c1 e)) (APut A w.heap.size false) (MP (MSet M id m1) (bx.pm&&pm)) u x:=fun u x hr=>hr.mono (fun b hb _=>D.block b hb) D.size hA (xqM a1 _)
    refine ⟨_,_,APut A w.heap.size false,MSet M id m1,_,W _ _ q,.inl rfl,D.mono hB,a1,fun b hb=>⟨hA b hb,.inl⟩,fun b hb _=>D.block b hb,.of_new D (fun i m' ao=>?_),⟨?_,?_,?_⟩,.osl _ id (ver+1) 0 (len+ys.length) m1 (by simp [MSet]) (zd _) rfl fun _=>⟨by simpa [m1] using ad,some ⟨w.heap.size,0,none⟩,by simp [m1],fun _=>by simp [m1]⟩⟩
    . by_cases aw:i=id
      . subst aw;have:m'=m1:=by simp [MSet] at ao;exact ao.symm
        subst this;exact .inr (zd _)
      . exact .inl (by simpa [MSet,aw] using ao)
    . intro i' m2 ai;by_cases aw:i'=id
      . subst aw;have:m2=m1:=by simp [MSet] at ai;exact ai.symm
        subst this;refine ⟨_,by rw [xbG,zM (xcP bb)],⟨rfl,rfl,xbJ af,ae,by simp [m1];omega,xpz (fun x hx=>by have:=V.ok x hx;rwa [al] at this) ac,fun _=>by simpa [m1] using hB,fun _=>by simp [m1],fun _=>⟨c1,.of (xaH af) (by simpa [m1] using heap_alloc_new w.drew (.cells c1 e)),by simpa [m1] using az,?_⟩,fun _=>⟨fun _=>.inr ⟨rfl,rfl⟩,fun _=>rfl⟩⟩⟩
        intro i j hi hj;rw [xar af,xax af];exact a5 _ _ (b7 i j hi hj)
      . have au:M i'=some m2:=by simpa [MSet,aw] using ai
        obtain ⟨bk,g1,g2⟩:=hR.box i' m2 au;exact ⟨bk,by rw [xc6 bb an af aw];exact g1,g2.mono (fun h0=>D.block _ (g2.lt h0)) (fun b hb _=>D.block b hb) D.size hA (fun h0=>⟨fun hf=>.inl ((g2.guard h0).1 hf),fun hf=>(g2.guard h0).2 (hA _ (g2.lt h0) hf)⟩) a1⟩
    . intro i' a9 m2 m3 ai au b5 bz he;by_cases Z:i'=id<;>by_cases ap:a9=id
      . rw [Z,ap]
      . exfalso;have g1:m2=m1:=by simp [MSet,Z] at ai;exact ai.symm
        have g2:M a9=some m3:=by simpa [MSet,ap] using au
        obtain ⟨bk,_,g3⟩:=hR.box a9 m3 g2;have:=g3.lt bz;rw [<-he,g1] at this;simp [m1] at this
      . exfalso;have g1:m3=m1:=by simp [MSet,ap] at au;exact au.symm
        have g2:M i'=some m2:=by simpa [MSet,Z] using ai
        obtain ⟨bk,_,g3⟩:=hR.box i' m2 g2;have:=g3.lt b5;rw [he,g1] at this;simp [m1] at this
      . exact hR.inj i' a9 m2 m3 (by simpa [MSet,Z] using ai) (by simpa [MSet,ap] using au) b5 bz he
    . intro b hb;rcases hb with hb|⟨rfl,_⟩
      . have:=hR.lt b hb;simp;omega
      . simp
   rcases Nat.eq_zero_or_pos m.cap with J|J
   ·
    have bu:bx.xs=[]:=zB (by omega)
    have ca:len=0:=by omega
    subst ca;rw [J] at ab;rcases am with ⟨rfl,a0⟩|⟨b0,ac,news,Q,aq,O⟩
    . obtain ⟨g1,g2,g3⟩:=xAn (m':=⟨m.b,ver+1,m.sz,m.cap,m.ty⟩) (bx':=⟨ver+1,te.sz,e,bx.xs++[],false,bx.pm&&pm⟩) hR J hm bb an af rfl rfl (.inr (by simp [bl])) rfl al.symm bj.symm (by simp [bu])
      exact ⟨_,_,A,_,_,W _ _ (by rw [ab];simpa using a0 a 0 0 (zd _)),.inl rfl,Below.refl _ _,g2,fun _ _=>Iff.rfl,fun _ _ _=>rfl,g3,g1,.osl _ id (ver+1) 0 0 ⟨m.b,ver+1,m.sz,m.cap,m.ty⟩ (by simp [MSet]) (zd _) rfl fun _=>⟨by simp,a,by simp [J],fun h=>by simp at h;omega⟩⟩
    . have a2:Rel w A M z te.zero:=by rw [bg];exact xcZ w A M z
      obtain ⟨b3,_⟩:=a2.cells (xa1 aa);have bp:=xaw aa;have ad:=grownCap_ge w (0+ys.length) 0 e;have ae:=grownCap_le_maxLen w (0+ys.length) 0 e (by unfold maxLen;omega)
      have aj:(Builtin.zeroCells z.cells (grownCap w (0+ys.length) 0 e - ys.length)).size=(grownCap w (0+ys.length) 0 e - ys.length)*te.sz:=by rw [size_zeroCells];congr 1;omega
      refine a3 (news.toArray++Builtin.zeroCells z.cells (grownCap w (0+ys.length) 0 e - ys.length)) (grownCap w (0+ys.length) 0 e) (by rw [Array.size_append,List.size_toArray,Q,aj,<-Nat.add_mul];congr 1;omega) ad ae ac (fun i' j Z hj=>?_) ?_
      . rw [bu,zV] at Z |-;have hk:i'*te.sz+j<ys.length*te.sz:=xdP Z hj;have e1:(news.toArray++Builtin.zeroCells z.cells (grownCap w (0+ys.length) 0 e - ys.length)).getD (i'*te.sz+j) undef=news.getD (i'*te.sz+j) undef:=by
         simp only [zv,Array.getElem?_append,List.size_toArray,Q,hk,if_true,List.getElem?_toArray,z7]
        rw [e1];exact (aq _ _ Z hj).mp_and'
      . rw [ab];cases a with
        | none =>
         have q:=(O i z ay a4 ah.symm).nil (by omega) (by rw [<-ba];simp at a8;omega)
         simpa using q
        | some a =>
         have q:=(O i z ay a4 ah.symm).grow a 0 0 [] (by simp) (by simp) (by omega) (by omega) (growslice_fits (by omega) (by rw [<-ba];exact a8))
         simpa using q
   have cd:=ha J;subst cd;simp only [Nat.zero_mul] at ab;obtain ⟨c0,h1,h2,h3⟩:=V.cells J
   replace h1:=h1.plain (V.nomap (xaH an))
   replace h3:∀ i j,i<bx.xs.length->j<m.sz->Rel w A (MP M bx.pm) (c0.getD (i*m.sz+j) undef) ((bx.xs.getD i .top).cells.getD j .top):=fun i j hi hj=>by
    have:=h3 i j hi hj;rw [xar an,xax an] at this;exact this
   have cm:A m.b:=(V.guard J).1 b1;rw [al] at h2 h3;rw [bj] at h1;have ak:∀ (news:List Value),news.length=ys.length*te.sz->(∀ y,y∈ys->y.okElem te.sz=true)->len+ys.length<=m.cap ->
     (∀ i j,i<ys.length->j<te.sz->Rel w A (MP M pm) (news.getD (i*te.sz+j) undef) ((ys.getD i .top).cells.getD j .top)) ->
     (Builtin.append_ #[t,tt] o.type #[ρc os,ρc ox]).run P w=.ok (.slice (some ⟨m.b,0,none⟩) (len+ys.length) m.cap) (w.setRow m.b (xIx c0.toList (len*te.sz) news).toArray) ->
     Writes P o ρc w A M B (.osl id (ver+1) 0 (len+ys.length)) (H.set id ⟨ver+1,te.sz,e,bx.xs++ys,false,bx.pm&&pm⟩):=by
    intro news Q ac Y b6 q;have ax:len*te.sz+news.length<=c0.toList.length:=by
     have cg:c0.toList.length=m.cap*te.sz:=by simpa using h2
     rw [Q,<-Nat.add_mul,cg];exact Nat.mul_le_mul_right _ Y
    obtain ⟨g1,g2,g3,g4,gt,g5⟩:=xmQ (m':=⟨m.b,ver+1,m.sz,m.cap,m.ty⟩) (bx':=⟨ver+1,te.sz,e,bx.xs++ys,false,bx.pm&&pm⟩) hR J hm bb V an af b1 (c':=(xIx c0.toList (len*te.sz) news).toArray) rfl rfl rfl rfl (.inr (by simp [bl]))
     rfl al.symm bj.symm rfl (by simp;omega) (by rw [al];exact xpz (fun x hx=>by rw [<-al];exact V.ok x hx) ac)
     (by have:=xjC ax;simp at this |-;rw [this,h2,al])
     (by
      rw [al];intro i j hi hj;rw [xfo];refine xsg (M:=MP M (bx.pm&&pm)) (c:=c0.toList) Q (fun i j hi hj=>by rw [xdl];exact (h3 i j hi hj).mp_and) (fun i j hi hj=>(b6 i j hi hj).mp_and') (fun k hk=>?_) (fun k hk=>?_) i j hi hj
      . rw [xhz ax,if_neg (by rw [ag];omega)]
      . rw [xhz ax,if_pos (by rw [ag,Q];omega),<-ag,show len*te.sz+k - len*te.sz=k by omega])
    exact ⟨_,_,A,_,_,W _ _ q,.inl rfl,g4,g2,fun _ _=>Iff.rfl,g3,gt,g1,.osl _ id (ver+1) 0 (len+ys.length) ⟨m.b,ver+1,m.sz,m.cap,m.ty⟩ (by simp [MSet]) (zd _) rfl fun _=>⟨by simpa using Y,some ⟨m.b,0,none⟩,by simp,fun _=>by simp⟩⟩
   have bh:len<=m.cap:=bc;rcases am with ⟨rfl,a0⟩|⟨b0,ac,news,Q,aq,O⟩
   . refine ak [] (by simp) (by simp) (by simpa using bh) (by simp) ?_
     have cf:(xIx c0.toList (len*te.sz) []).toArray=c0:=by simp [xIx]
     have bo:w.setRow m.b c0=w:=setRow_self w m.b c0 e (0,0) h1;rw [cf,bo,ab];simpa using a0 (some ⟨m.b,0,none⟩) len m.cap bh
   . by_cases Y:len+ys.length<=m.cap
     . refine ak news (Q) ac Y (fun i j hi hj=>aq _ _ hi hj) ?_
       have bf:len*i.size+news.length<=c0.size:=by
        rw [Q,<-ah,<-Nat.add_mul,h2];exact Nat.mul_le_mul_right _ Y
       have:=(O i z ay a4 ah.symm).room m.b len m.cap c0 h1 Y bf;rw [ab,this];rw [<-ah];rfl
     . have bd:∀ j u,(c0.toList.take (len*te.sz))[j]?=some u->w.cell? ((⟨m.b,0,none⟩:Addr).add j)=some u:=by
        intro j u a7;rw [List.getElem?_take] at a7;split at a7
        . rw [xfl,zI];simp [World.cell?,h1];simpa using a7
        . simp at a7
       have a6:(c0.toList.take (len*te.sz)).length=len*te.sz:=by
        simp only [zu,Array.length_toList,h2];have:len*te.sz<=m.cap*te.sz:=Nat.mul_le_mul_right _ bh;omega
       have q:=(O i z ay a4 ah.symm).grow ⟨m.b,0,none⟩ len m.cap (c0.toList.take (len*te.sz)) (by rw [a6,ah]) bd (by omega) (by omega) (growslice_fits (by omega) (by rw [<-ba];exact a8))
       have ad:=grownCap_ge w (len+ys.length) m.cap e;have ae:=grownCap_le_maxLen w (len+ys.length) m.cap e (by unfold maxLen;omega)
       generalize hcap:grownCap w (len+ys.length) m.cap e=cap at q ad ae;have a2:Rel w A M z te.zero:=by rw [bg];exact xcZ w A M z
       obtain ⟨b3,_⟩:=a2.cells (xa1 aa);have bp:=xaw aa;have aj:(Builtin.zeroCells z.cells (cap - (len+ys.length))).size=(cap - (len+ys.length))*te.sz:=by rw [size_zeroCells];congr 1;omega
       generalize bn:(c0.toList.take (len*te.sz)).toArray++news.toArray++Builtin.zeroCells z.cells (cap - (len+ys.length))=c1 at q;have az:c1.size=cap*te.sz:=by
        rw [<-bn];simp only [Array.size_append,List.size_toArray,a6,Q,aj,<-Nat.add_mul];congr 1;omega
       have b9:∀ k,k<bx.xs.length*te.sz->c1.toList.getD k undef=c0.toList.getD k undef:=by
        intro k hk;rw [<-ag] at hk;rw [<-bn];simp only [Array.toList_append,zx,z7,zQ,a6,hk,if_true,List.getElem?_take]
       have bq:∀ k,k<ys.length*te.sz->c1.toList.getD (bx.xs.length*te.sz+k) undef=news.getD k undef:=by
        intro k hk;rw [<-ag,<-bn];simp only [Array.toList_append,zx,z7,zQ,a6,show ¬ len*te.sz+k<len*te.sz by omega,if_false,Q,show len*te.sz+k - len*te.sz=k by omega,hk,if_true]
       refine a3 c1 cap az ad ae ac (fun i j hi hj=>?_) (by rw [ab];exact q)
       rw [<-xdl];exact xsg (M:=MP M (bx.pm&&pm)) (c:=c0.toList) (Q) (fun i j hi hj=>by rw [xdl];exact (h3 i j hi hj).mp_and) (fun i j hi hj=>(aq _ _ hi hj).mp_and') b9 bq i j hi hj
 . simp at h
def xp1 (hR:HR w A M B H) (hB:B<=w.heap.size) {o:Oper} {ρc:Operand->Value} {c:Call} {t tt:TypeId} {os ox:Operand} {xs xx r:AV} {H':List Box} (ho:o.op=.call c) (J:c.callee=.builtin .append)
  (W:c.argTypes.toList=[t,tt]) (Y:c.args.toList=[os,ox]) (hs:Rel w A M (ρc os) xs) (hx:Rel w A M (ρc ox) xx) (h:xJb P H t tt xs xx=some (r,H')) :
  Writes P o ρc w A M B r H':=by
 unfold xJb at h;split at h
 case h_2=>simp at h
 rename_i ti V;split at h
 case h_2=>simp at h
 rename_i e hd;split at h
 case h_2=>simp at h
 rename_i te q;split at h
 case h_2=>simp at h
 rename_i ys pm Q;have hu:P.underlying t=some (.slice e):=by rw [xj8 V,hd]
 have D:0<te.sz:=by
  unfold absApp at h;split at h
  . split at h
    case isFalse=>simp at h
    rename_i hc;exact hc.1
  . split at h
    case h_2=>simp at h
    split at h
    case isFalse=>simp at h
    rename_i hc;exact hc.2.2.2.2.2.1
  . simp at h
 obtain ⟨i,z,O,_⟩:=xa2 q;exact xwt hR hB ho J W Y hs q hu (fun v hv=>by subst hv;exact xmV hR q D hu O hx Q) h
def HR.rebuild (hR:HR w A M B H) {w':World} {A':Nat->Prop} {M':Id->Option MB} {H':List Box} (S:Nat->Prop)
  (hH:∀ k,¬ S k->k<H.length->H'[k]?=H[k]?) (hM:∀ j:Id,¬ S j.base->M' j=M j)
  (D:∀ (j:Id) m,¬ S j.base->M j=some m->0<m.cap->w'.heap[m.b]?=w.heap[m.b]?/\(A m.b->A' m.b))
  (hw:∀ b,b<w.heap.size->¬ A b->w'.heap[b]?=w.heap[b]?) (hs:w.heap.size<=w'.heap.size) (hA:∀ b,b<w.heap.size->A' b->A b) (Q:MExt M M')
  (J:∀ (j:Id) m,S j.base->M' j=some m->∃ bx,getB H' j=some bx/\BoxAt w' A' M' B j m bx)
  (q:∀ (j:Id) m j' m',S j.base->M' j=some m->M' j'=some m'->0<m.cap->0<m'.cap->m.b=m'.b->j=j')
  (V:∀ b,A' b->b<w'.heap.size):HR w' A' M' B H':=by
 refine ⟨fun j m hm=>?_,fun j j' m m' h1 h2 c1 c2 he=>?_,V⟩
 . by_cases hj:S j.base
   . exact J j m hj hm
   . rw [hM j hj] at hm;obtain ⟨bx,g1,g2⟩:=hR.box j m hm;refine ⟨bx,by rw [xkw (hH _ hj (xjX g1))];exact g1,g2.mono (fun h0=>(D j m hj hm h0).1) hw hs hA (fun h0=>?_) Q⟩
     rw [g2.guard h0];exact ⟨(D j m hj hm h0).2,hA _ (g2.lt h0)⟩
 . by_cases hj:S j.base
   . exact q j m j' m' hj h1 h2 c1 c2 he
   . by_cases O:S j'.base
     . exact (q j' m' j m O h2 h1 c2 c1 he.symm).symm
     . rw [hM j hj] at h1;rw [hM j' O] at h2;exact hR.inj j j' m m' h1 h2 c1 c2 he
def xnc {e v:AV} {j sz:Nat} (hj:j<sz) (hl:e.cells.length=sz) (hv:v.cells=[v]):(putCells e j 1 sz v).cells.length=sz/\∀ k,k<sz->(putCells e j 1 sz v).cells.getD k .top=if k=j then v else e.cells.getD k .top:=by
 unfold putCells;split
 . rename_i hw;obtain ⟨rfl,rfl⟩:=hw;refine ⟨by rw [hv];rfl,fun k hk=>?_⟩
   have:k=0:=by omega
   subst this;rw [if_pos rfl,hv];rfl
 . have q:min j e.cells.length=j:=by omega
   refine ⟨by rw [xhX,hv];simp;omega,fun k hk=>?_⟩
   simp only [xhX,hv,zx,z7,zQ,zu,q];by_cases J:k<j
   . simp [J,List.getElem?_take,show ¬ k=j by omega]
   . by_cases D:k=j
     . subst D;simp
     . simp only [J,if_false,zG,List.length_nil,show ¬ (k - j<1) by omega,D,List.getElem?_drop]
       congr 2;omega
def xod {e v:AV} {j sz:Nat} (hj:j<sz) (he:e.okElem sz=true) (hv:v.cells=[v]) (ho:v.one=true):(putCells e j 1 sz v).okElem sz=true:=by
 have hl:=xaw he;obtain ⟨h1,h2⟩:=xnc hj hl hv;have h3:=xa1 he;simp only [AV.okElem,h1,beq_self_eq_true,Bool.true_and];rw [zJ] at h3 |-;intro y hy;obtain ⟨k,hk,rfl⟩:=xfq hy;rw [h1] at hk;rw [h2 k hk];split
 . exact ho
 . exact h3 _ (xaI (by omega))
def xIg (bx:Box) (ver i j:Nat) (v:AV):Box:=⟨ver,bx.sz,bx.ty,bx.xs.set i (putCells (bx.xs.getD i .top) j 1 bx.sz v),bx.frz,bx.pm⟩
def xqA {bx:Box} {ver i j:Nat} {v:AV} (hi:i<bx.xs.length) (hj:j<bx.sz) (hl:(bx.xs.getD i .top).cells.length=bx.sz) (hv:v.cells=[v]) {i' k:Nat} (hk:k<bx.sz) :
  ((xIg bx ver i j v).xs.getD i' .top).cells.getD k .top=if i'=i/\k=j then v else (bx.xs.getD i' .top).cells.getD k .top:=by
 have hp:=xnc (e:=bx.xs.getD i .top) (v:=v) hj hl hv;unfold xIg;by_cases q:i'=i
 . subst q;have e1:(bx.xs.set i' (putCells (bx.xs.getD i' .top) j 1 bx.sz v)).getD i' .top=putCells (bx.xs.getD i' .top) j 1 bx.sz v:=by simp [z7,hi]
   rw [e1,hp.2 k hk];simp
 . have e1:(bx.xs.set i (putCells (bx.xs.getD i .top) j 1 bx.sz v)).getD i' .top=bx.xs.getD i' .top:=by simp [z7,List.getElem?_set,show ¬ i=i' from fun h=>q h.symm]
   rw [e1,if_neg (fun h=>q h.1)]
def HR.detach (hR:HR w A M B H) {n i j sz:Nat} {ys:List AV} {m:MB} {bx:Box} (hb:H[n]?=some bx) (am:xH9 bx.ty j=true) (hx:(bx.xs.getD i .top).cells.getD j .top=.list sz ys) (hj:j<bx.sz) (ao:(bx.xs.getD i .top).cells.length=bx.sz) (hm:M (.r n i j)=some m) :
  let M':Id->Option MB:=fun x=>if x=.b H.length then some ⟨m.b,0,m.sz,m.cap,m.ty⟩ else if x=.r n i j then some ⟨0,m.ver+1,0,0,m.ty⟩ else M x
  HR w A M' B (H.set n (xIg bx bx.ver i j (.int .i64 ys.length))++[⟨0,sz,rowTy bx.ty,ys,bx.frz,true⟩])/\Mv w A M w A M'/\∀ v,Rel w A M v (xJc n i j (.list sz ys))->Rel w A M' v (.osl H.length 0 0 ys.length):=by
 intro M';obtain ⟨rb,g1,g2⟩:=hR.box _ m hm;have ab:isC bx.ty=true:=xeQ am;obtain ⟨g4,g5,g6,g7⟩:=xgH hb ab g1;rw [hx] at g7;subst g7;have ah:2*ys.length=m.ver:=g2.ver;have hsz:sz=m.sz:=g2.sz;have ag:rowTy bx.ty=m.ty:=by have:=g2.ty;rw [xut,xbJ (xbQ _)] at this;exact this
 have hn:n<H.length:=xcP hb;have ad:=hR.free_of_length (n:=H.length) (zd _);have az:(Id.r n i j)≠.b H.length:=fun e=>by cases e
 have W:M' (.b H.length)=some ⟨m.b,0,m.sz,m.cap,m.ty⟩:=by simp [M']
 have V:M' (.r n i j)=some ⟨0,m.ver+1,0,0,m.ty⟩:=by simp [M']
 have J:∀ x:Id,x≠.b H.length->x≠.r n i j->M' x=M x:=fun x h1 h2=>by simp [M',h1,h2]
 have aj:∀ x m0,M x=some m0->x≠.b H.length:=fun x m0 h e=>by rw [e,ad.1] at h;cases h
 have O:MExt M M':=fun x m0 h=>by
  by_cases q:x=.r n i j
  . subst q;rw [hm] at h;cases h;exact ⟨_,V,.inr (Nat.lt_succ_self _)⟩
  . exact ⟨m0,by rw [J x (aj x m0 h) q];exact h,.inl rfl⟩
 have Y:∀ x m',M' x=some m'->0<m'.cap->∃ y m0,M y=some m0/\m0.b=m'.b/\m0.cap=m'.cap/\(x=.b H.length/\y=.r n i j\/x=y/\y≠.r n i j):=fun x m' h h0=>by
  by_cases h1:x=.b H.length
  . subst h1;rw [W] at h;cases h;exact ⟨_,m,hm,rfl,rfl,.inl ⟨rfl,rfl⟩⟩
  . by_cases h2:x=.r n i j
    . subst h2;rw [V] at h;cases h;exact absurd h0 (by simp)
    . rw [J x h1 h2] at h;exact ⟨x,m',h,rfl,rfl,.inr ⟨rfl,h2⟩⟩
 have ai:∀ (x:Id) m1 x' m2,M' x=some m1->M' x'=some m2->0<m1.cap->0<m2.cap->m1.b=m2.b->x=x':=fun x m1 x' m2 h1 h2 c1 c2 he=>by
  obtain ⟨y,n1,a1,a2,a3,a4⟩:=Y x m1 h1 c1;obtain ⟨y',n2,b1,b2,b3,b4⟩:=Y x' m2 h2 c2;have:=hR.inj y y' n1 n2 a1 b1 (by omega) (by omega) (by rw [a2,b2,he])
  subst this;rcases a4 with ⟨rfl,e1⟩|⟨rfl,e1⟩<;>rcases b4 with ⟨rfl,e2⟩|⟨rfl,e2⟩
  . rfl
  . exact absurd e1 e2
  . exact absurd e2 e1
  . rfl
 have ap:∀ {v:Value} {x:AV},Rel w A M v x->Rel w A M' v x:=fun h=>h.mono (fun _ _ _=>rfl) (zd _) (fun _ _ h=>h) O
 have ae:(H.set n (xIg bx bx.ver i j (.int .i64 ys.length))++[⟨0,sz,rowTy bx.ty,ys,bx.frz,true⟩])[n]?=some (xIg bx bx.ver i j (.int .i64 ys.length)):=by
  rw [zP (by simpa using hn),zM hn]
 have D:(xIg bx bx.ver i j (.int .i64 ys.length)).xs.length=bx.xs.length:=by simp [xIg]
 have Q:∀ i' k,k<bx.sz->((xIg bx bx.ver i j (.int .i64 ys.length)).xs.getD i' .top).cells.getD k .top=if i'=i/\k=j then .int .i64 ys.length else (bx.xs.getD i' .top).cells.getD k .top:=fun i' k hk=>xqA g6 hj ao rfl hk
 have ac:∀ k,xH9 bx.ty k=true->k=j:=fun k hk=>by
  have hc:=xeQ hk;unfold xH9 at hk g4;rw [hc] at hk g4;rw [zh hk,zh g4]
 refine ⟨hR.rebuild (fun k=>k=n\/k=H.length) (fun k hk ak=>?_) (fun x q=>J x (fun e=>q (.inr (by rw [e];rfl))) fun e=>q (.inl (by rw [e];rfl))) (fun _ _ _ _ _=>⟨rfl,fun h=>h⟩) (fun _ _ _=>rfl) (zd _) (fun _ _ h=>h) O (fun x m' hS q=>?_) (fun x m1 x' m2 _ h1 h2 c1 c2 he=>ai x m1 x' m2 h1 h2 c1 c2 he) hR.lt,
  ⟨zd _,fun _ _ _=>rfl,fun _ _ h=>h,fun _ _ h _=>h,O,⟨fun _ _ _=>rfl,fun x m' h h0=>?_⟩⟩,fun v hv=>?_⟩
 . rw [zP (by simpa using ak),zY (fun e=>hk (.inl e.symm))]
 . by_cases h1:x=.b H.length
   ·
    subst h1;rw [W] at q;cases q;have af:isC (rowTy bx.ty)=false:=xbQ _;refine ⟨⟨0,sz,rowTy bx.ty,ys,bx.frz,true⟩,by rw [xbG,List.getElem?_append_right (by simp)];simp,rfl,hsz,by rw [xbJ af];exact ag,g2.capm,g2.fits,g2.ok,g2.low,g2.lt,fun h0=>?_,fun h0=>g2.guard h0⟩
    obtain ⟨c,c1,c2,c3⟩:=g2.cells h0;refine ⟨c,c1,c2,fun i' j' Z aw=>?_⟩
    have h4:=c3 i' j' Z aw;rw [xar (t:=(xIA bx (.list sz ys)).ty) (xbQ _),xax (bx:=xIA bx (.list sz ys)) (xbQ _)] at h4;rw [xar af,xax af];exact h4
   . by_cases h2:x=.r n i j
     ·
      subst h2;rw [V] at q;cases q;have ay:∃ rb,getB (H.set n (xIg bx bx.ver i j (.int .i64 ys.length))++[⟨0,sz,rowTy bx.ty,ys,bx.frz,true⟩]) (.r n i j)=some rb/\rb=⟨2*ys.length+1,0,rowTy bx.ty,[],bx.frz,true⟩:=by
       refine ⟨_,?_,rfl⟩;rw [xeP ae ab g4 g5 (by rw [D];exact g6),Q i j hj,if_pos ⟨rfl,rfl⟩]
       simp [xIA,rowLen,xIg]
      obtain ⟨rb,r1,rfl⟩:=ay;have hc:∀ {p:Prop},0<(0:Nat)->p:=fun h=>absurd h (by simp)
      exact ⟨_,r1,by simp only;omega,rfl,by rw [xbJ (xbQ _)];exact ag,zR _,zR _,fun x hx=>by simp at hx,hc,hc,hc,hc⟩
     . have aa:x.base=n:=by
        rcases hS with h|h
        . exact h
        . rw [J x h1 h2] at q;rw [hR.none_of_base (by rw [h];exact zd _)] at q;cases q
       rw [J x h1 h2] at q;obtain ⟨bx',k1,k2⟩:=hR.box x m' q;cases x with
       | r n' i' j' =>
        simp only [Id.base] at aa;subst aa;have k3:getB (H.set n' (xIg bx bx.ver i j (.int .i64 ys.length))++[⟨0,sz,rowTy bx.ty,ys,bx.frz,true⟩]) (.r n' i' j')=some bx':=by
         obtain ⟨e2,e3,e4,e5⟩:=xgH hb ab k1;have an:=ac j' e2;subst an;have ax:i'≠i:=fun e=>h2 (by rw [e])
         rw [xeP ae ab e2 e3 (by rw [D];exact e4),Q i' j' hj,if_neg (fun e=>ax e.1),e5]
         rfl
        exact ⟨bx',k3,k2.mono (fun _=>rfl) (fun _ _ _=>rfl) (zd _) (fun _ _ h=>h) k2.guard O⟩
       | b n' =>
        simp only [Id.base] at aa;subst aa;rw [xbG,hb] at k1;cases k1;have k4:=k2.mono (w':=w) (fun _=>rfl) (fun _ _ _=>rfl) (zd _) (fun _ _ h=>h) k2.guard O
        refine ⟨_,ae,k4.ver,k4.sz,k4.ty,k4.capm,by rw [D];exact k4.fits,fun y hy=>?_,k4.low,k4.lt,fun h0=>?_,k4.guard⟩
        . rcases List.mem_or_eq_of_mem_set hy with hy|rfl
          . exact k4.ok y hy
          . rw [<-k4.sz];exact xod hj (by rw [k4.sz];exact k4.ok _ (xaI g6)) rfl rfl
        . obtain ⟨c,c1,c2,c3⟩:=k4.cells h0;refine ⟨c,by rw [D];exact c1,c2,fun i' k Z hk=>?_⟩
          rw [D] at Z;have h4:=c3 i' k Z hk;have aq:MV M' (xIg bx bx.ver i j (.int .i64 ys.length)) k=MV M' bx k:=rfl;have al:xIw n' i' k (xIg bx bx.ver i j (.int .i64 ys.length)).ty (((xIg bx bx.ver i j (.int .i64 ys.length)).xs.getD i' .top).cells.getD k .top)=xIw n' i' k bx.ty ((bx.xs.getD i' .top).cells.getD k .top):=by
           rw [Q i' k (by rw [k4.sz];exact hk)]
           split
           . rename_i au;obtain ⟨rfl,rfl⟩:=au;show xIw n' i' k bx.ty _=_;unfold xIw;rw [g4,hx];rfl
           . rfl
          simp only [Id.base];rw [aq,al];exact h4
 . obtain ⟨y,m0,a1,a2,a3,_⟩:=Y x m' h h0;exact .inl ⟨y,m0,a1,by omega,a2.symm⟩
 . obtain ⟨m1,b1,b2,b3,b4⟩:=Rel.osl_inv hv;rw [hm] at b1;cases b1;obtain ⟨e1,a,e2,e3⟩:=b4 ah;exact .osl v (.b H.length) 0 0 ys.length _ W (zd _) b3 fun _=>⟨e1,a,e2,e3⟩
def deadLen:AV->Option Nat
 | .int _ l=>some l.toNat
 | _=>none
def absAdopt (P:Program) (H:List Box) (t:TypeId) (a v:AV):Option (List Box) :=
 match xH7 P t,a,v with
 | some ti,.own (.b n) ver i j,.osl (.b id) ver2 off len=>match xIb H (.b n) ver,xIb H (.b id) ver2 with
  | some bx,some b2=>match deadLen ((bx.xs.getD i .top).cells.getD j .top) with
   | some l0=>if ti.sz=1/\bx.frz=false/\xH9 bx.ty j=true/\bx.pm=true/\j<bx.sz/\i<bx.xs.length/\(bx.xs.getD i .top).cells.length=bx.sz /\
     b2.frz=false/\b2.pm=true/\isC b2.ty=false/\b2.ty=rowTy bx.ty/\off=0/\len=b2.xs.length/\l0<len then
    some ((H.set id ⟨ver2+1,b2.sz,b2.ty,[],false,true⟩).set n (xIg bx ver i j (.list b2.sz b2.xs))) else none
   | none=>none
  | _,_=>none
 | _,_,_=>none
def xws (hR:HR w A M B H) {o:Oper} {ρc:Operand->Value} {t:TypeId} {oa ov:Operand} {xa xv:AV} {H':List Box} (ho:o.op=.store t oa ov) (ha:Rel w A M (ρc oa) xa) (hv:Rel w A M (ρc ov) xv) (h:absAdopt P H t xa xv=some H') :
  Writes P o ρc w A M B (.tuple []) H':=by
 unfold absAdopt at h;split at h
 case h_2=>simp at h
 rename_i ti n ver i j id O off len b5;split at h
 case h_2=>simp at h
 rename_i bx b2 az aq;split at h
 case h_2=>simp at h
 rename_i l0 Y;split at h
 case isFalse=>simp at h
 rename_i bt;obtain ⟨bv,bd,V,bi,an,hi,bu,bb,bf,aa,be,rfl,rfl,b9⟩:=bt;cases h;obtain ⟨m,hm,q,b7⟩:=xkQ hR ha az;obtain ⟨m2,a2,al,J,bn,a8,cb⟩:=xil hR hv aq;obtain ⟨ai,bg⟩:=xaJ az;obtain ⟨ag,ap⟩:=xaJ aq;rw [xbG] at ai ag;have hne:id≠n:=fun e=>by
  subst e;rw [ai] at ag;cases ag;have:=xeQ V;rw [aa] at this;cases this
 have Q:0<m.cap:=by have:=q.fits;omega
 obtain ⟨c,h1,h2,h3⟩:=q.cells Q;have a9:xIa m.ty=false:=q.nomap (xb1 az)
 replace h1:=h1.plain a9
 have hsz:=q.sz;have bk:j<m.sz:=by omega
 have ax:(ρc ov).cells=#[ρc ov]:=by rw [a8];rfl
 have aw:(ρc ov).cells.size=1:=by rw [ax];rfl
 have bl:i*m.sz+m.sz<=c.size:=by
  rw [h2];have:(i+1)*m.sz<=m.cap*m.sz:=Nat.mul_le_mul_right _ (Nat.le_trans hi q.fits);rw [Nat.add_mul,Nat.one_mul] at this;exact this
 have ao:i*m.sz+j+(ρc ov).cells.toList.length<=c.toList.length:=by simp [aw];omega
 have ay:=run_storeCells_at P m.b (i*m.sz+j) m.ty (ρc ov).cells.toList 0 c w h1 (by simp [aw];omega) (fun u hu=>by
  rw [ax] at hu;simp only [zw] at hu;subst hu;rw [a8];rfl)
 simp only [Nat.add_zero] at ay;have bo:A m.b:=(q.guard Q).1 bd;generalize a0:(xIx c.toList (i*m.sz+j) (ρc ov).cells.toList).toArray=c' at ay;have bq:c'.size=m.cap*m.sz:=by rw [<-a0];have:=xjC ao;simp at this |-;omega
 have bj:∀ k,c'.getD k undef=if k=i*m.sz+j then ρc ov else c.getD k undef:=fun k=>by
  rw [<-a0,xfo,xhz ao,ax];by_cases hk:k=i*m.sz+j
  . subst hk;simp
  . rw [if_neg (by simp;omega),if_neg hk,xdl]
 have hs:(w.setRow m.b c').heap.size=w.heap.size:=by simp [World.setRow]
 have hw:∀ b,b<w.heap.size->¬ A b->(w.setRow m.b c').heap[b]?=w.heap[b]?:=fun b _ hb=>setRow_other w m.b b c' fun e=>hb (e▸bo)
 let M':Id->Option MB:=fun x=>if x=.b id then some ⟨m2.b,m2.ver+1,m2.sz,0,m2.ty⟩ else if x=.r n i j then some ⟨m2.b,2*b2.xs.length,m2.sz,m2.cap,m2.ty⟩ else M x
 have ah:M' (.b id)=some ⟨m2.b,m2.ver+1,m2.sz,0,m2.ty⟩:=by simp [M']
 have af:M' (.r n i j)=some ⟨m2.b,2*b2.xs.length,m2.sz,m2.cap,m2.ty⟩:=by simp [M']
 have Z:∀ x:Id,x≠.b id->x≠.r n i j->M' x=M x:=fun x h1 h2=>by simp [M',h1,h2]
 have b8:∀ m0,M (.r n i j)=some m0->m0.cap=0/\m0.ver<2*b2.xs.length->m0.ver<2*b2.xs.length:=fun _ _ h=>h.2
 have bh:∀ m0,M (.r n i j)=some m0->m0.ver<2*b2.xs.length:=fun m0 h0=>by
  obtain ⟨rb,k1,k2⟩:=hR.box _ m0 h0;obtain ⟨k4,k5,k6,k7⟩:=xgH ai (xeQ V) k1;have k8:=k2.ver;rw [k7] at k8;unfold deadLen at Y;split at Y
  . rename_i kk l hl;simp only [z6] at Y;rw [hl] at k8;simp only [xIA,rowLen] at k8;omega
  . simp at Y
 have W:MExt M M':=fun x m0 h0=>by
  by_cases e1:x=.b id
  . subst e1;rw [al] at h0;cases h0;exact ⟨_,ah,.inr (Nat.lt_succ_self _)⟩
  . by_cases e2:x=.r n i j
    . subst e2;exact ⟨_,af,.inr (bh m0 h0)⟩
    . exact ⟨m0,by rw [Z x e1 e2];exact h0,.inl rfl⟩
 have aj:∀ x m',M' x=some m'->0<m'.cap->∃ y m0,M y=some m0/\m0.b=m'.b/\m0.cap=m'.cap/\(x=.r n i j/\y=.b id\/x=y/\y≠.b id/\y≠.r n i j):=fun x m' h h0=>by
  by_cases e1:x=.b id
  . subst e1;rw [ah] at h;cases h;exact absurd h0 (by simp)
  . by_cases e2:x=.r n i j
    . subst e2;rw [af] at h;cases h;exact ⟨_,m2,al,rfl,rfl,.inl ⟨rfl,rfl⟩⟩
    . rw [Z x e1 e2] at h;exact ⟨x,m',h,rfl,rfl,.inr ⟨rfl,e1,e2⟩⟩
 have ba:∀ (x:Id) m1 x' m2,M' x=some m1->M' x'=some m2->0<m1.cap->0<m2.cap->m1.b=m2.b->x=x':=fun x m1 x' m2 h1 h2 c1 c2 he=>by
  obtain ⟨y,n1,a1,a2,a3,a4⟩:=aj x m1 h1 c1;obtain ⟨y',n2,b1,b2,b3,b4⟩:=aj x' m2 h2 c2;have:=hR.inj y y' n1 n2 a1 b1 (by omega) (by omega) (by rw [a2,b2,he])
  subst this;rcases a4 with ⟨rfl,e1⟩|⟨rfl,e1,_⟩<;>rcases b4 with ⟨rfl,e2⟩|⟨rfl,e2,_⟩
  . rfl
  . exact absurd e1 e2
  . exact absurd e2 e1
  . rfl
 have ae:∀ (x:Id) m0,x≠.b n->M x=some m0->0<m0.cap->(w.setRow m.b c').heap[m0.b]?=w.heap[m0.b]?:=fun x m0 hx h0 c0=>setRow_other w m.b m0.b c' fun e=>hx (hR.inj x (.b n) m0 m h0 hm c0 Q e)
 have hn:n<H.length:=xcP ai;have bw:id<H.length:=xcP ag;have a5:((H.set id ⟨O+1,b2.sz,b2.ty,[],false,true⟩).set n (xIg bx ver i j (.list b2.sz b2.xs)))[n]?=some (xIg bx ver i j (.list b2.sz b2.xs)):=zM (by simpa using hn)
 have bc:((H.set id ⟨O+1,b2.sz,b2.ty,[],false,true⟩).set n (xIg bx ver i j (.list b2.sz b2.xs)))[id]?=some ⟨O+1,b2.sz,b2.ty,[],false,true⟩:=by
  rw [zY (Ne.symm hne),zM bw]
 have ac:(xIg bx ver i j (.list b2.sz b2.xs)).xs.length=bx.xs.length:=by simp [xIg]
 have ab:∀ i' k,k<bx.sz->((xIg bx ver i j (.list b2.sz b2.xs)).xs.getD i' .top).cells.getD k .top=if i'=i/\k=j then .list b2.sz b2.xs else (bx.xs.getD i' .top).cells.getD k .top:=fun i' k hk=>xqA hi an bu rfl hk
 have au:∀ k,xH9 bx.ty k=true->k=j:=fun k hk=>by
  have hc:=xeQ hk;unfold xH9 at hk V;rw [hc] at hk V;rw [zh hk,zh V]
 have hR':HR (w.setRow m.b c') A M' B ((H.set id ⟨O+1,b2.sz,b2.ty,[],false,true⟩).set n (xIg bx ver i j (.list b2.sz b2.xs))):=by
  refine hR.rebuild (fun k=>k=n\/k=id) (fun k hk ca=>?_) (fun x D=>Z x (fun e=>D (.inr (by rw [e];rfl))) fun e=>D (.inl (by rw [e];rfl))) (fun x m0 D h0 c0=>⟨ae x m0 (fun e=>D (.inl (by rw [e];rfl))) h0 c0,fun h=>h⟩) hw (by rw [hs];exact zd _) (fun _ _ h=>h) W (fun x m' hS D=>?_) (fun x m1 x' m2 _ h1 h2 c1 c2 he=>ba x m1 x' m2 h1 h2 c1 c2 he) (fun b hb=>by rw [hs];exact hR.lt b hb)
  . rw [zY (fun e=>hk (.inl e.symm)),zY (fun e=>hk (.inr e.symm))]
  . by_cases e1:x=.b id
    ·
     subst e1;rw [ah] at D;cases D;have hc:∀ {p:Prop},0<(0:Nat)->p:=fun h=>absurd h (by simp)
     exact ⟨(⟨O+1,b2.sz,b2.ty,[],false,true⟩:Box),bc,by simp only;rw [<-J.ver,ap],J.sz,J.ty,zR _,zR _,fun x hx=>by simp at hx,hc,hc,hc,hc⟩
    . by_cases e2:x=.r n i j
      ·
       subst e2;rw [af] at D;cases D;have b0:getB ((H.set id ⟨O+1,b2.sz,b2.ty,[],false,true⟩).set n (xIg bx ver i j (.list b2.sz b2.xs))) (.r n i j)=some ⟨2*b2.xs.length,b2.sz,rowTy bx.ty,b2.xs,bx.frz,true⟩:=by
        rw [xeP a5 (xeQ V) V bi (by rw [ac];exact hi),ab i j an,if_pos ⟨rfl,rfl⟩]
        rfl
       have k4:=J.mono (w':=w.setRow m.b c') (A':=A) (M':=M') (fun h0=>ae (.b id) m2 (fun e=>hne (by injection e)) al h0) hw (by rw [hs];exact zd _) (fun _ _ h=>h) J.guard W
       refine ⟨_,b0,rfl,k4.sz,by rw [<-be];exact k4.ty,k4.capm,k4.fits,k4.ok,k4.low,k4.lt,fun h0=>?_,fun h0=>?_⟩
       . obtain ⟨cc,c1,c2,c3⟩:=k4.cells h0;refine ⟨cc,c1,c2,fun i' k ak hk=>?_⟩
         have h4:=c3 i' k ak hk;rw [xar aa,xax aa,bf] at h4;rw [xar (xbQ _),xax (bx:=⟨2*b2.xs.length,b2.sz,rowTy bx.ty,b2.xs,bx.frz,true⟩) (xbQ _)];exact h4
       . have:=k4.guard h0;rw [bb] at this;rw [bd];exact this
      . by_cases ad:x.base=id
        ·
         rw [Z x e1 e2] at D;obtain ⟨bx',k1,k2⟩:=hR.box x m' D;cases x with
         | b k=>exact absurd (by rw [<-ad];rfl) e1
         | r k i' j' =>
          simp only [Id.base] at ad;subst ad;rw [xei ag aa] at k1;cases k1;exact ⟨tombB,xei bc aa,k2.mono (fun h0=>ae _ m' (fun e=>by cases e) D h0) hw (by rw [hs];exact zd _) (fun _ _ h=>h) k2.guard W⟩
        have am:x.base=n:=by
         rcases hS with h|h
         . exact h
         . exact absurd h ad
        rw [Z x e1 e2] at D;obtain ⟨bx',k1,k2⟩:=hR.box x m' D;cases x with
        | r n' i' j' =>
         simp only [Id.base] at am;subst am;have k3:getB ((H.set id ⟨O+1,b2.sz,b2.ty,[],false,true⟩).set n' (xIg bx ver i j (.list b2.sz b2.xs))) (.r n' i' j')=some bx':=by
          obtain ⟨a7,e3,e4,e5⟩:=xgH ai (xeQ V) k1;have bp:=au j' a7;subst bp;have b6:i'≠i:=fun e=>e2 (by rw [e])
          rw [xeP a5 (xeQ V) a7 e3 (by rw [ac];exact e4),ab i' j' an,if_neg (fun e=>b6 e.1),e5]
          rfl
         exact ⟨bx',k3,k2.mono (fun h0=>ae _ m' (fun e=>by cases e) D h0) hw (by rw [hs];exact zd _) (fun _ _ h=>h) k2.guard W⟩
        | b n' =>
         simp only [Id.base] at am;subst am;rw [hm] at D;cases D;refine ⟨xIg bx ver i j (.list b2.sz b2.xs),a5,by rw [<-q.ver,bg];rfl,q.sz,q.ty,q.capm,by rw [ac];exact q.fits,fun y hy=>?_,q.low,fun h0=>by rw [hs];exact q.lt h0,fun h0=>?_,q.guard⟩
         . rcases List.mem_or_eq_of_mem_set hy with hy|rfl
           . exact q.ok y hy
           . rw [<-q.sz];exact xod an (by rw [q.sz];exact q.ok _ (xaI hi)) rfl rfl
         . refine ⟨c',.of a9 (setRow_heap w m.b c c' m.ty (0,0) h1),bq,fun i' k ak hk=>?_⟩
           rw [ac] at ak;have bz:MV M' (xIg bx ver i j (.list b2.sz b2.xs)) k=MV M' bx k:=rfl;show Rel _ _ (MV M' (xIg bx ver i j (.list b2.sz b2.xs)) k) _ (xIw n' i' k bx.ty _);rw [bz,ab i' k (by omega),bj]
           by_cases a6:i'=i/\k=j
           . obtain ⟨rfl,rfl⟩:=a6;rw [if_pos rfl,if_pos ⟨rfl,rfl⟩];unfold MV xIw;rw [V];obtain ⟨m3,q1,q2,q3,q4⟩:=Rel.osl_inv hv;rw [al] at q1;cases q1;obtain ⟨q5,a,q6,q7⟩:=q4 (by rw [<-ap,J.ver])
             exact .osl _ (.r n' i' k) _ _ _ _ af (zd _) q3 fun _=>⟨q5,a,q6,q7⟩
           . rw [if_neg a6,if_neg (fun e=>a6 (xDT hk bk e))]
             exact (h3 i' k ak hk).mono hw (by rw [hs];exact zd _) (fun _ _ h=>h) (xts W bx k)
 refine ⟨.skip,w.setRow m.b c',A,M',undef,?_,.inr ⟨rfl,rfl⟩,⟨rfl,rfl,rfl,by rw [hs];exact zd _,fun k hk=>setRow_other w m.b k c' fun e=>by have:=q.low Q;omega⟩,W,fun _ _=>Iff.rfl,hw,⟨fun b _ hb=>setRow_other w m.b b c' fun e=>hb (.b n) m hm Q e.symm,fun x m' h h0=>?_⟩,hR',.tuple #[] [] rfl (by simp)⟩
 . simp only [execOp,ho,b7,Instr.storeAt,Instr.sureAddr,storeVar,Sem.run_bind,Sem.run_pure,Result.andThen_ok,xcx b5,bv,aw,ne_eq,not_true,if_false];rw [ay,<-a0];rfl
 . obtain ⟨y,m0,a1,a2,a3,_⟩:=aj x m' h h0;exact .inl ⟨y,m0,a1,by omega,a2.symm⟩
def newRow (t:TypeId) (sz:Nat) (y:AV):AV:=putCells y (xIe t) 1 sz (.list (rowSz t) [])
def xrh {t:TypeId} {sz:Nat} {y:AV} (hs:xIe t<sz) (hy:y.okElem sz=true) {k:Nat} (hk:k<sz):(newRow t sz y).cells.getD k .top=if k=xIe t then .list (rowSz t) [] else y.cells.getD k .top :=
 (xnc hs (xaw hy) rfl).2 k hk
def xoO {t:TypeId} {k:Nat}:xH9 t k=true->k=xIe t:=fun h=>by
 have hc:=xeQ h;unfold xH9 at h;rw [hc] at h;exact zh h
def HR.grown (hR:HR w A M B H) {n:Nat} {m m':MB} {bx:Box} {w':World} {A':Nat->Prop} {c':Array Value} {ys:List AV}
  (hm:M (.b n)=some m) (hb:H[n]?=some bx) (Q:BoxAt w A M B (.b n) m bx) (a7:bx.frz=false) (hC:isC bx.ty=true) (ay:xIa m.ty=false) (an:bx.pm=true) (ac:xIe bx.ty<m.sz)
  (hw:∀ b,b<w.heap.size->¬ A b->w'.heap[b]?=w.heap[b]?) (hs:w.heap.size<=w'.heap.size) (hA:∀ b,b<w.heap.size->A' b->A b)
  (Y:∀ x m0,x≠.b n->M x=some m0->0<m0.cap->w'.heap[m0.b]?=w.heap[m0.b]?/\(A m0.b->A' m0.b))
  (e1:m'.ver=m.ver+1) (e2:m'.sz=m.sz) (e3:m'.ty=m.ty) (hcap:bx.xs.length+ys.length<=m'.cap) (a9:m'.cap<=maxLen) (al:B<=m'.b) (az:m'.b<w'.heap.size) (bd:A' m'.b)
  (hc:w'.heap[m'.b]?=some (.cells c' m'.ty (0,0))) (a5:c'.size=m'.cap*m.sz) (a6:m'.b=m.b/\0<m.cap\/w.heap.size<=m'.b)
  (au:∀ i j,i<bx.xs.length->j<m.sz->Rel w A (MV M bx j) (c'.getD (i*m.sz+j) undef) (xIw n i j bx.ty ((bx.xs.getD i .top).cells.getD j .top)))
  (ax:∀ i j,i<ys.length->j<m.sz->Rel w A xIl (c'.getD ((bx.xs.length+i)*m.sz+j) undef) ((ys.getD i .top).cells.getD j .top))
  (ah:∀ y,y∈ys->y.okElem m.sz=true) (am:∀ y,y∈ys->y.cells.getD (xIe bx.ty) .top=.nils) (aq:∀ b,A' b->b<w'.heap.size) :
  ∃ M',HR w' A' M' B (H.set n ⟨bx.ver+1,bx.sz,bx.ty,bx.xs++ys.map (newRow bx.ty bx.sz),false,true⟩)/\MExt M M'/\M' (.b n)=some m'/\∀ x m0,M' x=some m0->0<m0.cap->x=.b n/\m0=m'\/M x=some m0/\x≠.b n:=by
 have hn:n<H.length:=xcP hb;let M':Id->Option MB:=fun x=>if x=.b n then some m' else match x with
  | .b _=>M x
  | .r k i j=>if k=n/\bx.xs.length<=i/\i<bx.xs.length+ys.length/\j=xIe bx.ty then some ⟨0,0,rowSz bx.ty,0,rowTy bx.ty⟩ else M x
 have Z:M' (.b n)=some m':=by simp [M']
 have af:∀ i,bx.xs.length<=i->i<bx.xs.length+ys.length->M' (.r n i (xIe bx.ty))=some ⟨0,0,rowSz bx.ty,0,rowTy bx.ty⟩:=fun i h1 h2=>by simp [M',h1,h2]
 have W:∀ x:Id,x≠.b n->(∀ i,bx.xs.length<=i->i<bx.xs.length+ys.length->x≠.r n i (xIe bx.ty))->M' x=M x:=fun x h1 h2=>by
  cases x with
  | b k=>simp [M',h1]
  | r k i j =>
   have:¬ (k=n/\bx.xs.length<=i/\i<bx.xs.length+ys.length/\j=xIe bx.ty):=fun ⟨a1,a2,a3,a4⟩=>h2 i a2 a3 (by rw [a1,a4])
   simp [M',this]
 have ag:∀ i j,bx.xs.length<=i->M (.r n i j)=none:=fun i j hi=>by
  cases h:M (.r n i j) with
  | none=>rfl
  | some m0 =>
   obtain ⟨rb,k1,_⟩:=hR.box _ m0 h;obtain ⟨_,_,k3,_⟩:=xgH hb hC k1;omega
 have O:MExt M M':=fun x m0 h0=>by
  by_cases h1:x=.b n
  . subst h1;rw [hm] at h0;cases h0;exact ⟨m',Z,.inr (by omega)⟩
  . exact ⟨m0,by rw [W x h1 fun i hi _ e=>by subst e;rw [ag i _ hi] at h0;cases h0];exact h0,.inl rfl⟩
 have aa:∀ x m0,M' x=some m0->x=.b n/\m0=m'\/(∃ i,bx.xs.length<=i/\i<bx.xs.length+ys.length/\x=.r n i (xIe bx.ty)/\m0=⟨0,0,rowSz bx.ty,0,rowTy bx.ty⟩)\/(M x=some m0/\x≠.b n):=fun x m0 h=>by
  by_cases h1:x=.b n
  . subst h1;rw [Z] at h;simp only [z6] at h;exact .inl ⟨rfl,h.symm⟩
  . by_cases h2:∃ i,bx.xs.length<=i/\i<bx.xs.length+ys.length/\x=.r n i (xIe bx.ty)
    . obtain ⟨i,a1,a2,rfl⟩:=h2;rw [af i a1 a2] at h;simp only [z6] at h;exact .inr (.inl ⟨i,a1,a2,rfl,h.symm⟩)
    . rw [W x h1 fun i a1 a2 e=>h2 ⟨i,a1,a2,e⟩] at h
      exact .inr (.inr ⟨h,h1⟩)
 have q:∀ x m0,M' x=some m0->0<m0.cap->x=.b n/\m0=m'\/M x=some m0/\x≠.b n:=fun x m0 h h0=>by
  rcases aa x m0 h with h|⟨i,_,_,_,rfl⟩|h
  . exact .inl h
  . exact absurd h0 (by simp)
  . exact .inr h
 have ao:∀ x m0,M x=some m0->x≠.b n->0<m0.cap->m0.b≠m'.b:=fun x m0 h hx h0 e=>by
  rcases a6 with ⟨h1,h2⟩|h1
  . exact hx (hR.inj x (.b n) m0 m h hm h0 h2 (by rw [e,h1]))
  . obtain ⟨be,_,k2⟩:=hR.box x m0 h;have:=k2.lt h0;omega
 have D:(bx.xs++ys.map (newRow bx.ty bx.sz)).length=bx.xs.length+ys.length:=by simp
 have ai:(H.set n ⟨bx.ver+1,bx.sz,bx.ty,bx.xs++ys.map (newRow bx.ty bx.sz),false,true⟩)[n]?=some ⟨bx.ver+1,bx.sz,bx.ty,bx.xs++ys.map (newRow bx.ty bx.sz),false,true⟩:=zM hn;have hsz:=Q.sz;have ap:∀ i,i<bx.xs.length->(bx.xs++ys.map (newRow bx.ty bx.sz)).getD i .top=bx.xs.getD i .top:=fun i hi=>by simp [z7,zQ,hi]
 have aw:∀ i,i<ys.length->(bx.xs++ys.map (newRow bx.ty bx.sz)).getD (bx.xs.length+i) .top=newRow bx.ty bx.sz (ys.getD i .top):=fun i hi=>by
  simp [z7,zQ,hi]
 have J:xH9 bx.ty (xIe bx.ty)=true:=by unfold xH9;rw [hC];exact Nat.beq_refl _
 refine ⟨M',hR.rebuild (fun k=>k=n) (fun k hk _=>zY (fun e=>hk e.symm)) (fun x hx=>W x (fun e=>hx (by rw [e];rfl)) fun i _ _ e=>hx (by rw [e];rfl)) (fun x m0 hx h0 c0=>Y x m0 (fun e=>hx (by rw [e];rfl)) h0 c0) hw hs hA O (fun x m0 hx a8=>?_) (fun x m1 x' m2 _ h1 h2 c1 c2 he=>?_) aq,O,Z,q⟩
 . rcases aa x m0 a8 with ⟨rfl,rfl⟩|⟨i,a1,a2,rfl,rfl⟩|⟨h0,hne⟩
   ·
    refine ⟨_,ai,by simp only;rw [Q.ver,e1],by rw [e2];exact hsz,by rw [e3];exact Q.ty,a9,by rw [D];exact hcap,fun y hy=>?_,fun _=>al,fun _=>az,fun _=>⟨c',.of (by rw [e3];exact ay) hc,by rw [e2];exact a5,fun i j hi hj=>?_⟩,fun _=>⟨fun _=>bd,fun _=>rfl⟩⟩
    . rw [e2];rcases zH.1 hy with hy|hy
      . exact Q.ok y hy
      . obtain ⟨y0,ba,rfl⟩:=zL.1 hy;rw [hsz];exact xod ac (ah y0 ba) rfl rfl
    . rw [e2] at hj |-;rw [D] at hi;have bc:MV M' (⟨bx.ver+1,bx.sz,bx.ty,bx.xs++ys.map (newRow bx.ty bx.sz),false,true⟩:Box) j=MV M' bx j:=by unfold MV;rw [an]
      show Rel _ _ (MV M' _ j) _ (xIw n i j bx.ty _);rw [bc];by_cases ak:i<bx.xs.length
      . rw [ap i ak];exact (au i j ak hj).mono hw hs hA (xts O bx j)
      . obtain ⟨i0,rfl⟩:∃ i0,i=bx.xs.length+i0:=⟨i - bx.xs.length,by omega⟩
        have V:i0<ys.length:=by omega
        have h4:=ax i0 j V hj;have ae:=xaI V;rw [aw i0 V,xrh (by rw [hsz];exact ac) (by rw [hsz];exact ah _ ae) (by rw [hsz];exact hj)]
        by_cases aj:j=xIe bx.ty
        . subst aj;rw [if_pos rfl];rw [am _ ae] at h4;have hv:c'.getD ((bx.xs.length+i0)*m.sz+xIe bx.ty) undef=.slice none 0 0:=by
           generalize c'.getD ((bx.xs.length+i0)*m.sz+xIe bx.ty) undef=u at h4;cases h4;rfl
          unfold MV xIw;rw [J,hv];exact .osl _ (.r n _ _) _ _ _ _ (af _ (Nat.le_add_right _ _) (by omega)) (zd _) rfl fun _=>⟨zd _,none,rfl,fun h=>absurd h (by simp)⟩
        . have a0:xH9 bx.ty j=false:=by
           cases hq:xH9 bx.ty j with
           | false=>rfl
           | true=>exact absurd (xoO hq) aj
          rw [if_neg aj];unfold MV xIw;rw [a0,an];exact h4.mono hw hs hA (MExt.refl _)
   ·
    obtain ⟨i0,rfl⟩:∃ i0,i=bx.xs.length+i0:=⟨i - bx.xs.length,by omega⟩
    have V:i0<ys.length:=by omega
    have ad:∀ {p:Prop},0<(0:Nat)->p:=fun h=>absurd h (by simp)
    refine ⟨⟨0,rowSz bx.ty,rowTy bx.ty,[],false,true⟩,?_,rfl,rfl,xbJ (xbQ _),zR _,zR _,fun y hy=>by simp at hy,ad,ad,ad,ad⟩
    rw [xeP ai hC J rfl (by rw [D];omega)]
    simp only;rw [aw i0 V,xrh (by rw [hsz];exact ac) (by rw [hsz];exact ah _ (xaI V)) (by rw [hsz];exact ac),if_pos rfl]
    rfl
   ·
    have ab:x.base=n:=hx;obtain ⟨rb,k1,k2⟩:=hR.box x m0 h0;cases x with
    | b k=>simp only [Id.base] at ab;subst ab;exact absurd rfl hne
    | r k i j =>
     simp only [Id.base] at ab;subst ab;obtain ⟨q2,q3,q4,q5⟩:=xgH hb hC k1;have bb:bx.frz=false:=a7;refine ⟨rb,?_,k2.mono (fun c0=>(Y _ m0 hne h0 c0).1) hw hs hA (fun c0=>?_) O⟩
     . rw [xeP ai hC q2 rfl (by rw [D];omega)]
       simp only;rw [ap i q4,q5];generalize (bx.xs.getD i .top).cells.getD j .top=z;cases z<;>simp [xIA,bb]
     . rw [k2.guard c0];exact ⟨(Y _ m0 hne h0 c0).2,hA _ (k2.lt c0)⟩
 . rcases q x m1 h1 c1 with ⟨rfl,rfl⟩|⟨a1,a2⟩<;>rcases q x' m2 h2 c2 with ⟨rfl,rfl⟩|⟨b1,b2⟩
   . rfl
   . exact absurd he.symm (ao x' m2 b1 b2 c2)
   . exact absurd he (ao x m1 a1 a2 c1)
   . exact hR.inj x x' m1 m2 a1 b1 c1 c2 he
def isNils:AV->Bool
 | .nils=>true
 | _=>false
def absAppC (P:Program) (H:List Box) (t tt:TypeId) (s x:AV):Option (AV×List Box) :=
 match xH7 P t,s with
 | some ti,.osl (.b n) ver off len=>match ti.d with
  | .slice e=>match xH7 P e,xIb H (.b n) ver with
   | some te,some bx=>match absSrc P H t tt e te.sz x with
    | some (ys,pm)=>if off=0/\len=bx.xs.length/\bx.frz=false/\bx.sz=te.sz/\isC bx.ty=true/\rty bx.ty=e/\bx.pm=true/\pm=true/\xIe bx.ty<te.sz/\0<te.sz /\
      (len+ys.length)*te.bytes<=140737488355328/\len+ys.length<=xIX/\te.zero.okElem te.sz=true/\0<ys.length/\ys.all (fun y=>isNils (y.cells.getD (xIe bx.ty) .top))=true then
     some (.osl (.b n) (ver+1) 0 (len+ys.length),H.set n ⟨ver+1,te.sz,bx.ty,bx.xs++ys.map (newRow bx.ty te.sz),false,true⟩) else none
    | none=>none
   | _,_=>none
  | _=>none
 | _,_=>none
set_option maxHeartbeats 1000000 in
def xyX (hR:HR w A M B H) (hB:B<=w.heap.size) {o:Oper} {ρc:Operand->Value} {c:Call} {t tt:TypeId} {os ox:Operand} {xs xx r:AV} {H':List Box} (ho:o.op=.call c) (bh:c.callee=.builtin .append)
  (b0:c.argTypes.toList=[t,tt]) (b6:c.args.toList=[os,ox]) (hs:Rel w A M (ρc os) xs) (hx:Rel w A M (ρc ox) xx) (h:absAppC P H t tt xs xx=some (r,H')) :
  Writes P o ρc w A M B r H':=by
 unfold absAppC at h;split at h
 case h_2=>simp at h
 rename_i ti n ver off len b4;split at h
 case h_2=>simp at h
 rename_i e hd;split at h
 case h_2=>simp at h
 rename_i te bx bc ak;split at h
 case h_2=>simp at h
 rename_i ys pm bw;split at h
 case isFalse=>simp at h
 rename_i bv;obtain ⟨rfl,ac,a0,hsz,hC,bl,a7,rfl,a9,ba,az,bk,aw,b1,a6⟩:=bv;simp only [z6,zb] at h;obtain ⟨rfl,rfl⟩:=h;have hu:P.underlying t=some (.slice e):=by rw [xj8 b4,hd]
 obtain ⟨i,z,ah,b8,aq,aa,a2,bp,_⟩:=xa2 bc;have bi:=xmV (ty:=o.type) hR bc ba hu ah hx bw;have hts':c.argTypes=#[t,tt]:=by apply Array.ext';simpa using b0
 have has':c.args=#[os,ox]:=by apply Array.ext';simpa using b6
 have aj:∀ v w',(Builtin.append_ #[t,tt] o.type #[ρc os,ρc ox]).run P w=.ok v w'->(execOp ρc o).run P w=.ok (.value v) w':=by
  intro v w' hv;simp [execOp,ho,resolve,bh,hts',has',invoke,builtin,hv,Go.resolve]
 rcases bi with ⟨rfl,_⟩|⟨_,bn,news,ab,a5,Y⟩
 . simp at b1
 obtain ⟨m,a,hm,J,au,ad,ha⟩:=xil hR hs ak;obtain ⟨a3,bb⟩:=xaJ ak;rw [xbG] at a3;simp only [Nat.sub_zero,zI] at ad au;have V:m.sz=te.sz:=by rw [<-J.sz,hsz]
 have bd:m.ty=e:=by rw [<-J.ty,bl]
 have be:m.ver=ver:=by rw [<-J.ver,bb]
 have b7:len+ys.length<=4611686018427387904:=bk;have hnil':∀ y,y∈ys->y.cells.getD (xIe bx.ty) .top=.nils:=fun y hy=>by
  have:=zJ.1 a6 y hy;generalize y.cells.getD (xIe bx.ty) .top=q at this;cases q<;>first|rfl|(simp [isNils] at this)
 have hok':∀ y,y∈ys->y.okElem m.sz=true:=fun y hy=>by rw [V];exact bn y hy
 have hH':(⟨ver+1,te.sz,bx.ty,bx.xs++ys.map (newRow bx.ty te.sz),false,true⟩:Box)=⟨bx.ver+1,bx.sz,bx.ty,bx.xs++ys.map (newRow bx.ty bx.sz),false,true⟩:=by rw [hsz,bb]
 rw [hH'];have b3:Rel w A M z te.zero:=by rw [bp];exact xcZ w A M z
 obtain ⟨cb,_⟩:=b3.cells (xa1 aw);have b9:=xaw aw;have am:∀ (c1:Array Value) (cap:Nat),c1.size=cap*te.sz->len+ys.length<=cap->cap<=maxLen ->
   (∀ i j,i<bx.xs.length->j<m.sz->Rel w A (MV M bx j) (c1.getD (i*m.sz+j) undef) (xIw n i j bx.ty ((bx.xs.getD i .top).cells.getD j .top))) ->
   (∀ k,k<ys.length*te.sz->c1.getD (len*te.sz+k) undef=news.getD k undef) ->
   (Builtin.append_ #[t,tt] o.type #[ρc os,ρc ox]).run P w=.ok (.slice (some ⟨w.heap.size,0,none⟩) (len+ys.length) cap) (w.drew.alloc (.cells c1 e)) ->
   Writes P o ρc w A M B (.osl (.b n) (ver+1) 0 (len+ys.length)) (H.set n ⟨bx.ver+1,bx.sz,bx.ty,bx.xs++ys.map (newRow bx.ty bx.sz),false,true⟩):=by
  intro c1 cap ai af ae bf bg O;have W:Below w.heap.size w (w.drew.alloc (.cells c1 e)):=((Below.refl _ _).drew).alloc (by simp) _
  have hA:∀ b,b<w.heap.size->(APut A w.heap.size false b->A b):=fun b hb h=>by
   rcases h with h|⟨h,_⟩
   . exact h
   . omega
  have bu:(w.drew.alloc (.cells c1 e)).heap[w.heap.size]?=some (.cells c1 e (0,0)):=heap_alloc_new w.drew (.cells c1 e);obtain ⟨M',g1,g2,g3,g4⟩:=hR.grown (m':=⟨w.heap.size,ver+1,te.sz,cap,e⟩) (w':=w.drew.alloc (.cells c1 e)) (A':=APut A w.heap.size false) (c':=c1) (ys:=ys) hm a3 J a0 hC (J.nomap (xb1 ak)) a7 (by rw [V];exact a9)
   (fun b hb _=>W.block b hb) W.size hA (fun x m0 _ h0 c0=>by
    obtain ⟨ca,_,k2⟩:=hR.box x m0 h0;exact ⟨W.block _ (k2.lt c0),.inl⟩) (by simp [be]) V.symm bd.symm (by simp;omega) ae hB (by simp) (.inr ⟨rfl,rfl⟩) bu (by simp [V,ai]) (.inr (zd _)) bf
   (fun i' j Q hj=>by
    rw [V] at hj |-;rw [Nat.add_mul,Nat.add_assoc,<-ac,bg _ (xdP Q hj)];exact a5 i' j Q hj) hok' hnil' (fun b hb=>by
     rcases hb with hb|⟨rfl,_⟩
     . have:=hR.lt b hb;simp;omega
     . simp)
  exact ⟨_,_,APut A w.heap.size false,M',_,aj _ _ O,.inl rfl,W.mono hB,g2,fun b hb=>⟨hA b hb,.inl⟩,fun b hb _=>W.block b hb,⟨fun b hb _=>W.block b hb,fun x m0 h0 c0=>by
   rcases g4 x m0 h0 c0 with ⟨_,rfl⟩|⟨h1,_⟩
   . exact .inr (zd _)
   . exact .inl ⟨x,m0,h1,c0,rfl⟩⟩,g1,.osl _ (.b n) (ver+1) 0 (len+ys.length) _ g3 (zd _) rfl fun _=>⟨by simpa using af,some ⟨w.heap.size,0,none⟩,by simp,fun _=>by simp⟩⟩
 rcases Nat.eq_zero_or_pos m.cap with D|D
 ·
  have bo:bx.xs=[]:=zB (by omega)
  have bj:len=0:=by omega
  subst bj;rw [D] at ad;have af:=grownCap_ge w (0+ys.length) 0 e;have ae:=grownCap_le_maxLen w (0+ys.length) 0 e (by unfold maxLen;omega)
  have al:(Builtin.zeroCells z.cells (grownCap w (0+ys.length) 0 e - ys.length)).size=(grownCap w (0+ys.length) 0 e - ys.length)*te.sz:=by rw [size_zeroCells];congr 1;omega
  refine am (news.toArray++Builtin.zeroCells z.cells (grownCap w (0+ys.length) 0 e - ys.length)) (grownCap w (0+ys.length) 0 e) (by rw [Array.size_append,List.size_toArray,ab,al,<-Nat.add_mul];congr 1;omega) af ae (fun i' j Q _=>by rw [bo] at Q;simp at Q) (fun k hk=>?_) ?_
  . rw [show 0*te.sz+k=k by omega]
    simp only [zv,Array.getElem?_append,List.size_toArray,ab,hk,if_true,List.getElem?_toArray,z7]
  . rw [ad];cases a with
    | none =>
     have O:=(Y i z ah aq aa.symm).nil (by omega) (by rw [<-a2];simp at az;omega)
     simpa using O
    | some a =>
     have O:=(Y i z ah aq aa.symm).grow a 0 0 [] (by simp) (by simp) (by omega) (by omega) (growslice_fits (by omega) (by rw [<-a2];exact az))
     simpa using O
 have bz:=ha D;subst bz;simp only [Nat.zero_mul] at ad;obtain ⟨c0,h1,h2,h3⟩:=J.cells D
 replace h1:=h1.plain (J.nomap (xb1 ak))
 have a8:A m.b:=(J.guard D).1 a0;have bt:len<=m.cap:=au;by_cases Z:len+ys.length<=m.cap
 ·
  have ag:len*te.sz+news.length<=c0.toList.length:=by
   have b2:c0.toList.length=m.cap*te.sz:=by simp [h2,V]
   rw [ab,<-Nat.add_mul,b2];exact Nat.mul_le_mul_right _ Z
  have O:(Builtin.append_ #[t,tt] o.type #[ρc os,ρc ox]).run P w=.ok (.slice (some ⟨m.b,0,none⟩) (len+ys.length) m.cap) (w.setRow m.b (xIx c0.toList (len*te.sz) news).toArray):=by
   have ay:len*i.size+news.length<=c0.size:=by
    rw [ab,<-aa,<-Nat.add_mul,h2,V];exact Nat.mul_le_mul_right _ Z
   have:=(Y i z ah aq aa.symm).room m.b len m.cap c0 (by rw [<-bd];exact h1) Z ay
   rw [ad,this,<-aa];rfl
  generalize a4:(xIx c0.toList (len*te.sz) news).toArray=c1 at O;have bq:c1.size=m.cap*m.sz:=by rw [<-a4];have:=xjC ag;simp at this |-;omega
  have hs':(w.setRow m.b c1).heap.size=w.heap.size:=by simp [World.setRow]
  have hw:∀ b,b<w.heap.size->¬ A b->(w.setRow m.b c1).heap[b]?=w.heap[b]?:=fun b _ hb=>setRow_other w m.b b c1 fun e=>hb (e▸a8)
  obtain ⟨M',g1,g2,g3,g4⟩:=hR.grown (m':=⟨m.b,ver+1,m.sz,m.cap,m.ty⟩) (w':=w.setRow m.b c1) (A':=A) (c':=c1) (ys:=ys) hm a3 J a0 hC (J.nomap (xb1 ak)) a7 (by rw [V];exact a9)
   hw (by rw [hs'];exact zd _) (fun _ _ h=>h) (fun x m0 hx h0 ao=>⟨setRow_other w m.b m0.b c1 fun e=>hx (hR.inj x (.b n) m0 m h0 hm ao D e),fun h=>h⟩) (by simp [be]) rfl rfl (by simp;omega) J.capm (J.low D) (by rw [hs'];exact J.lt D) a8
   (setRow_heap w m.b c0 c1 m.ty (0,0) h1) bq (.inl ⟨rfl,D⟩)
   (fun i' j Q hj=>by
    rw [<-a4,xfo,xhz ag,if_neg (by
     have h9:=xdP Q hj;rw [<-ac,V] at h9;rw [V];omega),xdl]
    exact h3 i' j Q hj)
   (fun i' j Q hj=>by
    rw [V] at hj |-;rw [Nat.add_mul,Nat.add_assoc,<-ac,<-a4,xfo,xhz ag,if_pos (by have:=xdP Q hj;rw [ab];omega),show len*te.sz+(i'*te.sz+j) - len*te.sz=i'*te.sz+j by omega]
    exact a5 i' j Q hj) hok' hnil' (fun b hb=>by rw [hs'];exact hR.lt b hb)
  exact ⟨_,w.setRow m.b c1,A,M',_,aj _ _ O,.inl rfl,⟨rfl,rfl,rfl,by rw [hs'];exact zd _,fun k hk=>setRow_other w m.b k c1 fun e=>by have:=J.low D;omega⟩,g2,fun _ _=>Iff.rfl,hw,⟨fun b _ hb=>setRow_other w m.b b c1 fun e=>hb (.b n) m hm D e.symm,fun x m0 h0 ao=>by
   rcases g4 x m0 h0 ao with ⟨_,rfl⟩|⟨b5,_⟩
   . exact .inl ⟨.b n,m,hm,D,rfl⟩
   . exact .inl ⟨x,m0,b5,ao,rfl⟩⟩,g1,.osl _ (.b n) (ver+1) 0 (len+ys.length) _ g3 (zd _) rfl fun _=>⟨by simpa using Z,some ⟨m.b,0,none⟩,by simp,fun _=>by simp⟩⟩
 . have ax:∀ j u,(c0.toList.take (len*te.sz))[j]?=some u->w.cell? ((⟨m.b,0,none⟩:Addr).add j)=some u:=by
    intro j u ap;rw [List.getElem?_take] at ap;split at ap
    . rw [xfl,zI];simp [World.cell?,h1];simpa using ap
    . simp at ap
   have an:(c0.toList.take (len*te.sz)).length=len*te.sz:=by
    simp only [zu,Array.length_toList,h2,V];have:len*te.sz<=m.cap*te.sz:=Nat.mul_le_mul_right _ bt;omega
   have O:=(Y i z ah aq aa.symm).grow ⟨m.b,0,none⟩ len m.cap (c0.toList.take (len*te.sz)) (by rw [an,aa]) ax (by omega) (by omega) (growslice_fits (by omega) (by rw [<-a2];exact az))
   have af:=grownCap_ge w (len+ys.length) m.cap e;have ae:=grownCap_le_maxLen w (len+ys.length) m.cap e (by unfold maxLen;omega)
   generalize hcap:grownCap w (len+ys.length) m.cap e=cap at O af ae;have al:(Builtin.zeroCells z.cells (cap - (len+ys.length))).size=(cap - (len+ys.length))*te.sz:=by rw [size_zeroCells];congr 1;omega
   generalize a1:(c0.toList.take (len*te.sz)).toArray++news.toArray++Builtin.zeroCells z.cells (cap - (len+ys.length))=c1 at O;have ai:c1.size=cap*te.sz:=by
    rw [<-a1];simp only [Array.size_append,List.size_toArray,an,ab,al,<-Nat.add_mul];congr 1;omega
   refine am c1 cap ai af ae (fun i' j Q hj=>?_) (fun k hk=>?_) (by rw [ad];exact O)
   . have hk:=xdP Q hj;rw [<-ac,V] at hk;have e1:c1.getD (i'*m.sz+j) undef=c0.getD (i'*m.sz+j) undef:=by
      rw [<-xdl,<-xdl,<-a1,V];simp only [Array.toList_append,zx,z7,zQ,an,hk,if_true,List.getElem?_take]
     rw [e1];exact h3 i' j Q hj
   . rw [<-xdl,<-a1];simp only [Array.toList_append,zx,z7,zQ,an,show ¬ len*te.sz+k<len*te.sz by omega,if_false,ab,show len*te.sz+k - len*te.sz=k by omega,hk,if_true]
def mkd (H:List Box):AV->Bool
 | .own (.b n) _ _ _=>match H[n]? with
  | some bx=>isC bx.ty
  | none=>false
 | .osl (.b n) _ _ _=>match H[n]? with
  | some bx=>isC bx.ty
  | none=>false
 | _=>false
def isRowRef:AV->Bool
 | .osl (.r _ _ _) _ _ _=>true
 | _=>false
def absTake (P:Program) (H:List Box) (t tt:TypeId) (s x:AV):Option (AV×List Box) :=
 match s with
 | .osl (.r n i j) ver off len=>match H[n]? with
  | some bx=>match (bx.xs.getD i .top).cells.getD j .top with
   | .list sz ys=>if xH9 bx.ty j=true/\bx.pm=true/\j<bx.sz/\i<bx.xs.length/\(bx.xs.getD i .top).cells.length=bx.sz/\ver=2*ys.length/\off=0/\len=ys.length then
    xJb P (H.set n (xIg bx bx.ver i j (.int .i64 ys.length))++[⟨0,sz,rowTy bx.ty,ys,bx.frz,true⟩]) t tt (.osl (.b H.length) 0 0 len) x else none
   | _=>none
  | none=>none
 | _=>none
def Writes.pre {o:Oper} {ρc:Operand->Value} {x:AV} {H':List Box} {M1:Id->Option MB} (hm:Mv w A M w A M1) (h:Writes P o ρc w A M1 B x H'):Writes P o ρc w A M B x H':=by
 obtain ⟨n,w',A',M',v,h1,h2,h3,h4,h5,h6,h7,h8,h9⟩:=h;refine ⟨n,w',A',M',v,h1,h2,h3,hm.ext.trans h4,h5,h6,⟨fun b hb D=>h7.1 b hb fun id m q h0 e=>?_,fun id m' q h0=>?_⟩,h8,h9⟩
 . rcases hm.touch.2 id m q h0 with ⟨i,m1,g1,g2,g3⟩|g1
   . exact D i m1 g1 g2 (by rw [<-g3,e])
   . omega
 . rcases h7.2 id m' q h0 with ⟨i,m1,g1,g2,g3⟩|g1
   . rcases hm.touch.2 i m1 g1 g2 with ⟨i2,m2,k1,k2,k3⟩|k1
     . exact .inl ⟨i2,m2,k1,k2,by rw [g3,k3]⟩
     . exact .inr (by rw [g3];exact k1)
   . exact .inr g1
def xzN (hR:HR w A M B H) (hB:B<=w.heap.size) {o:Oper} {ρc:Operand->Value} {c:Call} {t tt:TypeId} {os ox:Operand} {xs xx r:AV} {H':List Box} (ho:o.op=.call c) (D:c.callee=.builtin .append)
  (V:c.argTypes.toList=[t,tt]) (W:c.args.toList=[os,ox]) (hs:Rel w A M (ρc os) xs) (hx:Rel w A M (ρc ox) xx) (h:absTake P H t tt xs xx=some (r,H')) :
  Writes P o ρc w A M B r H':=by
 unfold absTake at h;split at h
 case h_2=>simp at h
 rename_i n i j ver off len;split at h
 case h_2=>simp at h
 rename_i bx hb;split at h
 case h_2=>simp at h
 rename_i sz ys q;split at h
 case isFalse=>simp at h
 rename_i J;obtain ⟨O,Y,hj,hi,Q,rfl,rfl,rfl⟩:=J;obtain ⟨m,hm,_⟩:=Rel.osl_inv hs;obtain ⟨d1,d2,d3⟩:=hR.detach hb O q hj Q hm;exact Writes.pre d2 (xp1 d1 hB ho D V W (d3 _ hs) (hx.mono (fun _ _ _=>rfl) (zd _) (fun _ _ h=>h) d2.ext) h)
def xEc {t:TypeId} (q:xIa t=false):isC (rty t)=false:=by
 unfold rty;split
 . rw [q];show isC (t % 1048576)=false;have h:t % 1048576<1048576:=Nat.mod_lt _ (by omega)
   unfold isC;cases hb:Nat.ble 1048576 (t % 1048576) with
   | false=>rfl
   | true=>have:=Nat.le_of_ble_eq_true hb;exact absurd h (Nat.not_lt.2 this)
 . assumption
def HR.unmark (hR:HR w A M B H) {n:Nat} {bx:Box} (hb:H[n]?=some bx) (hC:isC bx.ty=true) (af:xIa bx.ty=false) (ae:rowsOk bx bx.xs=true) :
  ∃ A' M',HR w A' M' B (H.set n ⟨bx.ver,bx.sz,rty bx.ty,bx.xs,bx.frz,true⟩)/\Mv w A M w A' M'/\∀ b,b<B->A b->A' b:=by
 have hn:n<H.length:=xcP hb;let A':Nat->Prop:=fun b=>A b/\¬ ∃ i j m0,M (.r n i j)=some m0/\0<m0.cap/\m0.b=b
 let M':Id->Option MB:=fun x=>match x with
  | .b _=>M x
  | .r k i j=>if k=n then (M x).map fun _=>⟨0,tombB.ver,0,0,0⟩ else M x
 have ai:∀ k,M' (.b k)=M (.b k):=fun k=>rfl
 have J:∀ i j m0,M (.r n i j)=some m0->M' (.r n i j)=some ⟨0,tombB.ver,0,0,0⟩:=fun i j m0 h=>by simp [M',h]
 have Z:∀ i j,M (.r n i j)=none->M' (.r n i j)=none:=fun i j h=>by simp [M',h]
 have D:∀ x:Id,x.base≠n->M' x=M x:=fun x hx=>by
  cases x with
  | b k=>rfl
  | r k i j=>simp only [Id.base] at hx;simp [M',hx]
 have q:=ae;unfold rowsOk at q;rw [hC] at q;simp only [xIE,zg,zJ] at q;obtain ⟨ad,q⟩:=q;have ab:∀ i j m0,M (.r n i j)=some m0->xH9 bx.ty j=true/\i<bx.xs.length/\m0.ver<tombB.ver:=fun i j m0 h=>by
  obtain ⟨rb,k1,k2⟩:=hR.box _ m0 h;obtain ⟨e1,e2,e3,e4⟩:=xgH hb hC k1;obtain ⟨ys,hy⟩:=xfU (q _ (xaI e3));rw [xoO e1,hy] at e4;subst e4;have h1:2*ys.length=m0.ver:=k2.ver;have h2:ys.length<=m0.cap:=k2.fits;have h3:=k2.capm;unfold maxLen at h3;refine ⟨e1,e3,?_⟩;show m0.ver<1208925819614629174706176;omega
 have Y:MExt M M':=fun x m0 h=>by
  by_cases hx:x.base=n
  . cases x with
    | b k=>exact ⟨m0,h,.inl rfl⟩
    | r k i j =>
     simp only [Id.base] at hx;subst hx;exact ⟨_,J i j m0 h,.inr (ab i j m0 h).2.2⟩
  . exact ⟨m0,by rw [D x hx];exact h,.inl rfl⟩
 have Q:∀ x m',M' x=some m'->0<m'.cap->M x=some m'/\∀ i j,x≠.r n i j:=fun x m' h h0=>by
  by_cases hx:x.base=n
  . cases x with
    | b k=>exact ⟨h,fun i j e=>by cases e⟩
    | r k i j =>
     simp only [Id.base] at hx;subst hx;cases hm:M (.r k i j) with
     | none=>rw [Z i j hm] at h;cases h
     | some m0 =>
      rw [J i j m0 hm] at h;cases h;exact absurd h0 (by simp)
  . rw [D x hx] at h;exact ⟨h,fun i j e=>hx (by rw [e];rfl)⟩
 have hA:∀ b,b<w.heap.size->A' b->A b:=fun b _ h=>h.1
 have O:∀ (x:Id) m0,(∀ i j,x≠.r n i j)->M x=some m0->0<m0.cap->A m0.b->A' m0.b:=fun x m0 hx h h0 ah=>by
  refine ⟨ah,?_⟩;rintro ⟨i,j,m1,e1,e2,e3⟩;exact hx i j (hR.inj x (.r n i j) m0 m1 h e1 h0 e2 e3.symm)
 have ac:(H.set n ⟨bx.ver,bx.sz,rty bx.ty,bx.xs,bx.frz,true⟩)[n]?=some ⟨bx.ver,bx.sz,rty bx.ty,bx.xs,bx.frz,true⟩:=zM hn;have W:isC (rty bx.ty)=false:=xEc af;refine ⟨A',M',hR.rebuild (fun k=>k=n) (fun k hk _=>zY (fun e=>hk e.symm)) (fun x hx=>D x hx) (fun x m0 hx h0 c0=>⟨rfl,O x m0 (fun i j e=>hx (by rw [e];rfl)) h0 c0⟩) (fun _ _ _=>rfl) (zd _) hA Y (fun x m' hx h=>?_) (fun x m1 x' m2 _ h1 h2 c1 c2 he=>?_) (fun b hb=>hR.lt b hb.1),
  ⟨zd _,fun _ _ _=>rfl,hA,fun b _ h ag=>⟨h,?_⟩,Y,⟨fun _ _ _=>rfl,fun x m' h h0=>.inl ⟨x,m',(Q x m' h h0).1,h0,rfl⟩⟩⟩,fun b aj h=>⟨h,?_⟩⟩
 . cases x with
   | b k =>
    have hx:k=n:=hx;subst hx;have h:M (.b k)=some m':=h;obtain ⟨bx',k1,k2⟩:=hR.box _ m' h;rw [xbG,hb] at k1;cases k1;refine ⟨_,ac,k2.ver,k2.sz,by rw [xbJ W];exact k2.ty,k2.capm,k2.fits,k2.ok,k2.low,k2.lt,fun h0=>?_,fun h0=>?_⟩
    . obtain ⟨c,c1,c2,c3⟩:=k2.cells h0;refine ⟨c,c1,c2,fun i j hi hj=>?_⟩
      have h4:=c3 i j hi hj;rw [xar W,xax (bx:=⟨bx.ver,bx.sz,rty bx.ty,bx.xs,bx.frz,true⟩) W];show Rel w A' xIl _ _;cases aa:xH9 bx.ty j with
      | true =>
       obtain ⟨ys,hy⟩:=xfU (q _ (xaI hi));rw [<-xoO aa] at hy;unfold xIw MV at h4;simp only [aa] at h4;rw [hy] at h4 |-;exact xv6 hR hA hb hC hy h4 fun m0 e1 e2 e3=>e3.2 ⟨i,j,m0,e1,e2,rfl⟩
      | false =>
       unfold xIw MV at h4;simp only [aa,ad] at h4;exact h4.mono (fun _ _ _=>rfl) (zd _) hA (MExt.refl _)
    . rw [k2.guard h0];exact ⟨O (.b k) m' (fun i j e=>by cases e) h h0,fun h=>h.1⟩
   | r k i j =>
    have hx:k=n:=hx;subst hx;cases hm:M (.r k i j) with
    | none=>rw [Z i j hm] at h;cases h
    | some m0 =>
     rw [J i j m0 hm] at h;cases h;have V:∀ {p:Prop},0<(0:Nat)->p:=fun h=>absurd h (by simp)
     exact ⟨tombB,xei ac W,rfl,rfl,rfl,zR _,zR _,fun y hy=>by simp [tombB] at hy,V,V,V,V⟩
 . exact hR.inj x x' m1 m2 (Q x m1 h1 c1).1 (Q x' m2 h2 c2).1 c1 c2 he
 . rintro ⟨i,j,m1,e1,e2,e3⟩;exact ag _ m1 e1 e2 e3
 . rintro ⟨i,j,m1,e1,e2,e3⟩;obtain ⟨rb,_,k2⟩:=hR.box _ m1 e1;have:=k2.low e2;omega
end
section
open Go.Maps Go.MapKept
def isKey (s:List UInt8) (x:AV):Bool:=match x with
 | .str k=>k==s
 | _=>false
def mapIx:List AV->List UInt8->Option Nat
 | [],_=>none
 | e::es,s=>match isKey s (e.cells.getD 0 .top) with
  | true=>some 0
  | false=>(mapIx es s).map (·+1)
def xID (xs:List AV) (s:List UInt8):Bool:=(mapIx xs s).isSome
def xIq (z:AV) (xs:List AV) (s:List UInt8):AV:=match mapIx xs s with
 | some i=>(xs.getD i .top).cells.getD 1 .top
 | none=>z
def xIo (xs:List AV) (s:List UInt8) (v:AV):List AV:=match mapIx xs s with
 | some i=>xs.set i (.agg [.str s,v])
 | none=>xs++[.agg [.str s,v]]
def mapTy (t:TypeId):TypeId:=1208925819614629241815040+4294967296*t
def xo4:∀ {xs:List AV} {s:List UInt8},(∀ i,i<xs.length->isKey s ((xs.getD i .top).cells.getD 0 .top)=false)->mapIx xs s=none
 | [],_,_=>rfl
 | e::es,s,h=>by
  have h0:=h 0 (by simp)
  simp only [List.getD_cons_zero] at h0;simp only [mapIx,h0];rw [xo4 fun i hi=>by simpa using h (i+1) (by simpa using hi)]
  rfl
def xmJ:∀ {xs:List AV} {s:List UInt8} {j:Nat},j<xs.length->isKey s ((xs.getD j .top).cells.getD 0 .top)=true->(∀ i,i<j->isKey s ((xs.getD i .top).cells.getD 0 .top)=false)->mapIx xs s=some j
 | [],_,_,h,_,_=>by simp at h
 | e::es,s,0,_,h1,_=>by simp only [List.getD_cons_zero] at h1;simp only [mapIx,h1]
 | e::es,s,j+1,h,h1,h2=>by
  have h0:=h2 0 (by omega)
  simp only [List.getD_cons_zero] at h0;simp only [mapIx,h0];rw [xmJ (j:=j) (by simpa using h) (by simpa using h1) fun i hi=>by simpa using h2 (i+1) (by omega)]
  rfl
def xnG {s t:ByteArray} (h:s.data.toList=t.data.toList):s=t:=by
 cases s;cases t;simp only at h;congr 1;exact Array.ext' h
structure MapAt (w:World) (A:Nat->Prop) (M:Id->Option MB) (m:MB) (xs:List AV) (es:Array MapEntry) (clock:Nat):Prop where
 heap:MapB w m.b es clock
 size:es.size=xs.length
 keys:∀ (k:Nat) (x:MapEntry),es[k]?=some x->∃ t:ByteArray,x.key=.string t/\(xs.getD k .top).cells.getD 0 .top=.str t.data.toList/\t.size<=maxLen
 vals:∀ (k:Nat) (x:MapEntry),es[k]?=some x->Rel w A M x.val ((xs.getD k .top).cells.getD 1 .top)
 apart:∀ (k l:Nat) (x y:MapEntry),es[k]?=some x->es[l]?=some y->x.key=y.key->k=l
def MapAt.miss {w:World} {A:Nat->Prop} {M:Id->Option MB} {m:MB} {xs:List AV} {es:Array MapEntry} {clock:Nat} (h:MapAt w A M m xs es clock) {t:ByteArray} (q:∀ x∈es.toList,x.key≠.string t):mapIx xs t.data.toList=none :=
 xo4 fun i hi=>by
  have hi':i<es.size:=by rw [h.size];exact hi
  obtain ⟨t',h1,h2,_⟩:=h.keys i es[i] (by simp [hi'])
  rw [h2];show (t'.data.toList==t.data.toList)=false;rw [beq_eq_false_iff_ne];intro e;exact q es[i] (by simp) (by rw [h1,xnG e])
def MapAt.hit {w:World} {A:Nat->Prop} {M:Id->Option MB} {m:MB} {xs:List AV} {es:Array MapEntry} {clock:Nat} (h:MapAt w A M m xs es clock) {t:ByteArray} {j:Nat} {e0:MapEntry} (hj:es.toList[j]?=some e0) (hk:e0.key=.string t):mapIx xs t.data.toList=some j/\j<xs.length:=by
 have q:es[j]?=some e0:=by simpa using hj
 have hj':j<es.size:=by
  rcases zK j es.size with h|h
  . exact h
  . simp [Array.getElem?_eq_none h] at q
 have D:j<xs.length:=by rw [<-h.size];exact hj'
 refine ⟨xmJ D ?_ fun i hi=>?_,D⟩
 . obtain ⟨t',h1,h2,_⟩:=h.keys j e0 q;rw [h2];rw [hk] at h1;injection h1 with h1;rw [h1];show (t'.data.toList==t'.data.toList)=true;exact beq_self_eq_true _
 . have hi':i<es.size:=by omega
   obtain ⟨t',h1,h2,_⟩:=h.keys i es[i] (by simp [hi'])
   rw [h2];show (t'.data.toList==t.data.toList)=false;rw [beq_eq_false_iff_ne];intro e;have:=h.apart i j es[i] e0 (by simp [hi']) q (by rw [h1,hk,xnG e])
   omega
def xug {xs:List AV} {sz k j:Nat} (q:∀ x,x∈xs->x.okElem sz=true) (hk:k<xs.length) (hj:j<sz):((xs.getD k .top).cells.getD j .top).one=true:=by
 have h:=q _ (xaI hk);have h1:=xa1 h;have h2:=xaw h;rw [zJ] at h1;exact h1 _ (xaI (by omega))
def xsP {w:World} {A:Nat->Prop} {M:Id->Option MB} {t:ByteArray} {x:AV} (h:Rel w A M (.string t) x) (hx:x.one=true) (D:∀ id ver i j,x≠.own id ver i j) (q:∀ id ver i j,x≠.osl id ver i j):x=.str t.data.toList:=by
 generalize hv:Value.string t=v at h;cases h<;>first|(cases hv;rfl)|(cases hv;done)|(simp [AV.one] at hx;done)|(exact absurd rfl (D _ _ _ _))|(exact absurd rfl (q _ _ _ _))
def BoxAt.mapAt {w:World} {A:Nat->Prop} {M:Id->Option MB} {B:Nat} {id:Id} {m:MB} {bx:Box} (h:BoxAt w A M B id m bx) (hm:xIa bx.ty=true) (h0:xH9 bx.ty 0=false) (h1:xH9 bx.ty 1=false) (hs:bx.sz=2) (hp:bx.pm=true) (hcap:0<m.cap) :
  ∃ es clock,MapAt w A xIl m bx.xs es clock/\m.cap=maxLen:=by
 obtain ⟨c,c1,c2,c3⟩:=h.cells hcap;have Q:xIa m.ty=true:=by
  rw [<-h.ty];unfold rty;split
  . rw [hm];exact hm
  . exact hm
 unfold HoldsC at c1;rw [Q] at c1;obtain ⟨es,clock,d1,d2,d3,d4,d5,d6⟩:=c1;have hsz:m.sz=2:=by rw [<-h.sz];exact hs
 have D:∀ (k:Nat) (x:MapEntry),es[k]?=some x->k<bx.xs.length:=fun k x hx=>by
  rw [<-d2];rcases zK k es.size with h|h
  . exact h
  . simp [Array.getElem?_eq_none h] at hx
 have q:∀ (k j:Nat),k<bx.xs.length->j<2->xH9 bx.ty j=false->Rel w A xIl (c.getD (k*m.sz+j) undef) ((bx.xs.getD k .top).cells.getD j .top):=fun k j hk hj O=>by
  have h4:=c3 k j hk (by rw [hsz];exact hj)
  unfold MV xIw at h4;simp only [O,hp] at h4;exact h4
 refine ⟨es,clock,⟨d1,d2,fun k x hx=>?_,fun k x hx=>?_,d6⟩,d3⟩
 . obtain ⟨t,ht,J⟩:=d5 k x hx;have hk:=D k x hx;have h4:=q k 0 hk (by omega) h0
   rw [Nat.add_zero,(d4 k x hx).1,ht] at h4;exact ⟨t,ht,xsP h4 (xug h.ok hk (by rw [hsz];omega)) (fun id ver i j e=>by rw [e] at h4;obtain ⟨_,hh,_⟩:=Rel.own_inv h4;cases hh) (fun id ver i j e=>by rw [e] at h4;obtain ⟨_,hh,_⟩:=Rel.osl_inv h4;cases hh),J⟩
 . have h4:=q k 1 (D k x hx) (by omega) h1
   rw [(d4 k x hx).2] at h4;exact h4
def getMap (H:List Box) (n:Nat) (ver:Nat):Option Box:=match H[n]? with
 | some bx=>if bx.ver=ver/\xIa bx.ty=true/\xH9 bx.ty 0=false/\xH9 bx.ty 1=false/\bx.sz=2/\bx.pm=true then some bx else none
 | none=>none
def mapNum (P:Program) (t e:TypeId):Option TypeId:=match P.underlying e with
 | some (.slice e2)=>match xH7 P e2 with
  | some te=>match Nat.beq te.sz 200 with
   | true=>some (mapTy t)
   | false=>some (1208925819614629174706176+4503599627370496*t+1048576*(2+64*(te.sz+64*e2)))
  | none=>none
 | _=>some (mapTy t)
def absMakeM (P:Program) (H:List Box) (t:TypeId):Option (AV×List Box):=match P.underlying t with
 | some (.map k e)=>match P.underlying k,mapNum P t e with
  | some .string,some ty=>if xIa ty=true/\isC ty=true then some (.own H.length 0 0 0,H++[⟨0,2,ty,[],false,true⟩]) else none
  | _,_=>none
 | _=>none
def absLookM (P:Program) (H:List Box) (t:TypeId) (m k:AV) (c:Bool):Option AV:=match m,k,P.underlying t with
 | .own (.b n) ver _ _,.str s,some (.map kt et)=>match P.underlying kt,xH7 P et,getMap H n ver with
  | some .string,some te,some bx=>if s.length<=xIX then some (match c with
   | true=>.tuple [xIq te.zero bx.xs s,.bool (xID bx.xs s)]
   | false=>xIq te.zero bx.xs s) else none
  | _,_,_=>none
 | _,_,_=>none
def lookL (xs:List AV) (s:List UInt8):List AV:=match mapIx xs s with
 | some i=>((xs.getD i .top).cells.getD 1 .top).toList
 | none=>[]
def absLookL (P:Program) (H:List Box) (t:TypeId) (m k:AV) (c:Bool):Option AV:=match m,k,P.underlying t with
 | .own (.b n) ver _ _,.str s,some (.map kt et)=>match P.underlying kt,P.underlying et,xH7 P et,getMap H n ver with
  | some .string,some (.slice e2),some te,some bx=>match te.zero,xH7 P e2 with
   | .nils,some te2=>if s.length<=xIX/\(!xID bx.xs s || xIO te2.sz (xIq .nils bx.xs s))=true then some (match c with
    | true=>.tuple [.list te2.sz (lookL bx.xs s),.bool (xID bx.xs s)]
    | false=>.list te2.sz (lookL bx.xs s)) else none
   | _,_=>none
  | _,_,_,_=>none
 | _,_,_=>none
def xpu {P:Program} {H:List Box} {t:TypeId} {m k r:AV} {c:Bool} (h:absLookL P H t m k c=some r):∃ n ver i j bx,m=.own (.b n) ver i j/\getMap H n ver=some bx:=by unfold absLookL at *;grind
def absPutM (P:Program) (H:List Box) (t:TypeId) (m k v:AV):Option (List Box):=match m,k,P.underlying t with
 | .own (.b n) ver _ _,.str s,some (.map kt _)=>match P.underlying kt,getMap H n ver with
  | some .string,some bx=>if bx.frz=false/\v.one=true/\v.pure=true/\bx.xs.length<xIX/\s.length<=xIX then some (H.set n ⟨ver,2,bx.ty,xIo bx.xs s v,false,true⟩) else none
  | _,_=>none
 | _,_,_=>none
section
variable {P : Program} {w : World} {A : Nat -> Prop} {M : Id -> Option MB} {B : Nat} {H : List Box}
def xjc {n ver:Nat} {bx:Box} (h:getMap H n ver=some bx):H[n]?=some bx/\bx.ver=ver/\xIa bx.ty=true/\xH9 bx.ty 0=false/\xH9 bx.ty 1=false/\bx.sz=2/\bx.pm=true:=by grind [getMap]
def xyC (hR:HR w A M B H) {v:Value} {n ver i j:Nat} {bx:Box} (h:Rel w A M v (.own (.b n) ver i j)) (hb:getMap H n ver=some bx) :
  ∃ m,M (.b n)=some m/\BoxAt w A M B (.b n) m bx/\v=.map (some m.b)/\0<m.cap:=by
 obtain ⟨O,J,q,_⟩:=xjc hb;obtain ⟨m,hm,hv,h1,he⟩:=Rel.own_inv h;obtain ⟨bx',h2,h3⟩:=hR.box _ m hm;rw [xbG,O] at h2;cases h2;refine ⟨m,hm,h3,?_⟩;have D:xIa m.ty=true:=by
  rw [<-h3.ty];unfold rty;split
  . rw [q];exact q
  . exact q
 have h0:=he (by rw [<-J,h3.ver])
 unfold ptrOf at h0;rw [D] at h0;cases hc:m.cap with
 | zero =>
  rw [hc] at h0;simp only at h0;rw [h0] at h1;cases h1
 | succ k =>
  rw [hc] at h0;exact ⟨h0,Nat.succ_pos k⟩
end
def xrF {s:List UInt8} {v:AV} (h:v.one=true):(AV.agg [.str s,v]).okElem 2=true:=by
 show (true&&(true&&(v.one&&true)))=true;rw [h];rfl
def xfV {P:Program} {k:TypeId} (hk:P.underlying k=some .string) {t:ByteArray} (ht:t.size<=maxLen):keyOf P k (.string t)=some (.string t.data.toList):=by
 simp [keyOf,hk,mapKey,ht]
def xiw {t:ByteArray} (h:t.data.toList.length<=xIX):t.size<=maxLen:=by
 rw [xj6];unfold xIX at h;unfold maxLen;omega
section
variable {P : Program} {w : World} {A : Nat -> Prop} {M : Id -> Option MB} {B : Nat} {H : List Box}
def xvS (hR:HR w A M B H) {ρc:Operand->Value} {t:TypeId} {om ok:Operand} {c:Bool} {xm xk r:AV} (hm:Rel w A M (ρc om) xm) (hk:Rel w A M (ρc ok) xk) (h:absLookM P H t xm xk c=some r) :
  ∃ v,(Instr.lookup t (ρc om) (ρc ok) c).run P w=.ok v w/\Rel w A M v r:=by
 unfold absLookM at h;split at h
 case h_2=>simp at h
 rename_i n ver i j s kt et Z;split at h
 case h_2=>simp at h
 rename_i te bx O ac V;split at h
 case isFalse=>simp at h
 rename_i aa;simp only [z6] at h;obtain ⟨m,an,ae,ad,af⟩:=xyC hR hm V;obtain ⟨ap,ao,al,ak,ag,ab,aj⟩:=xjc V;obtain ⟨es,clock,D,_⟩:=ae.mapAt al ak ag ab aj af;obtain ⟨t0,ah,Y⟩:=hk.str_inv;subst Y;have J:∀ x∈es.toList,∃ l,keyOf P kt x.key=some l:=fun x hx=>by
  obtain ⟨k,Q,rfl⟩:=zq.1 hx;simp only [Array.length_toList] at Q;obtain ⟨t',h1,_,h3⟩:=D.keys k es[k] (by simp [Q])
  exact ⟨.string t'.data.toList,by simp only [Array.getElem_toList];rw [h1];exact xfV O h3⟩
 obtain ⟨z,hz,ai⟩:=xr6 ac w;have W:Rel w A M z te.zero:=by rw [ai];exact xcZ w A M z
 rw [ad,ah,<-h];rcases xvT c (Maps.string_keyed O) Z hz D.heap J (kl:=.string t0.data.toList) (xfV O (xiw aa)) with ⟨h1,h2⟩|⟨j0,e0,h1,h2,h3⟩
 . have q:=D.miss h2;refine ⟨_,h1,?_⟩;cases c
   . simpa [xIq,q] using W
   . simp only [xIq,xID,q,if_true,Option.isSome];exact .tuple #[z,.bool false] _ rfl fun i hi=>by
      rcases i with _|_|i
      . exact W
      . exact .bool false
      . simp at hi;omega
 . obtain ⟨q,am⟩:=D.hit h1 h2;have hv:=(D.vals j0 e0 (by simpa using h1)).lift M
   refine ⟨_,h3,?_⟩;cases c
   . simpa [xIq,q] using hv
   . simp only [xIq,xID,q,if_true,Option.isSome];exact .tuple #[e0.val,.bool true] _ rfl fun i hi=>by
      rcases i with _|_|i
      . exact hv
      . exact .bool true
      . simp at hi;omega
def xzo (hR:HR w A M B H) {o:Oper} {ρc:Operand->Value} {t:TypeId} {om ok:Operand} {c:Bool} {xm xk r:AV} (ho:o.op=.lookup t om ok c) (hm:Rel w A M (ρc om) xm) (hk:Rel w A M (ρc ok) xk) (h:absLookM P H t xm xk c=some r) :
  Writes P o ρc w A M B r H:=by
 obtain ⟨v,h1,h2⟩:=xvS hR hm hk h;exact ⟨.value v,w,A,M,v,by simp only [execOp,ho,Sem.run_bind,h1,Result.andThen_ok,Sem.run_pure],.inl rfl,Below.refl _ _,MExt.refl M,fun _ _=>Iff.rfl,fun _ _ _=>rfl,⟨fun _ _ _=>rfl,fun id m' h h0=>.inl ⟨id,m',h,h0,rfl⟩⟩,hR,h2⟩
def xt9 (hR:HR w A M B H) {ρc:Operand->Value} {t:TypeId} {om ok:Operand} {c:Bool} {xm xk r:AV} (hm:Rel w A M (ρc om) xm) (hk:Rel w A M (ρc ok) xk) (h:absLookL P H t xm xk c=some r) :
  ∃ v,(Instr.lookup t (ρc om) (ρc ok) c).run P w=.ok v w/\Rel w A M v r:=by
 unfold absLookL at h;split at h
 case h_2=>simp at h
 rename_i n ver i j s kt et J;split at h
 case h_2=>simp at h
 rename_i e2 te bx W Z V O;split at h
 case h_2=>simp at h
 rename_i D hz Y;split at h
 case isFalse=>simp at h
 rename_i hc;obtain ⟨Q,q⟩:=hc;simp only [z6] at h;have hx:∀ v,Rel w A M v (xIq .nils bx.xs s)->Rel w A M v (.list D.sz (lookL bx.xs s)):=fun v hv=>by
  unfold xID xIq at q;unfold xIq at hv;unfold lookL;cases hi:mapIx bx.xs s with
  | none =>
   rw [hi] at hv;simp only at hv |-;generalize hn:AV.nils=x at hv;cases hv<;>first|(cases hn;done)|skip
   . exact .list0 none 0 D.sz
  | some i =>
   rw [hi] at hv q;simp only [zl,Bool.not_true,Bool.false_or] at hv q |-;obtain ⟨ys,hy⟩:=xfU q;rw [hy] at hv |-;exact hv
 have hM:∀ c,absLookM P H t (.own (.b n) ver i j) (.str s) c=some (match c with
   | true=>.tuple [xIq te.zero bx.xs s,.bool (xID bx.xs s)]
   | false=>xIq te.zero bx.xs s):=fun c=>by
  unfold absLookM;simp only [J,W,V,O];exact if_pos Q
 obtain ⟨v,h1,h2⟩:=xvS hR hm hk (hM c);refine ⟨v,h1,?_⟩;rw [<-h];rw [hz] at h2;cases c with
 | false=>exact hx v h2
 | true =>
  simp only at h2 |-;obtain ⟨vs,rfl,hl,hr⟩:=h2.tuple_inv;refine .tuple vs _ (by simpa using hl) fun i hi=>?_
  rcases i with _|_|i
  . exact hx _ (hr 0 (by simp))
  . exact hr 1 (by simp)
  . simp at hi;omega
def xwI (hR:HR w A M B H) {o:Oper} {ρc:Operand->Value} {t:TypeId} {om ok:Operand} {c:Bool} {xm xk r:AV} (ho:o.op=.lookup t om ok c) (hm:Rel w A M (ρc om) xm) (hk:Rel w A M (ρc ok) xk) (h:absLookL P H t xm xk c=some r) :
  Writes P o ρc w A M B r H:=by
 obtain ⟨v,h1,h2⟩:=xt9 hR hm hk h;exact ⟨.value v,w,A,M,v,by simp only [execOp,ho,Sem.run_bind,h1,Result.andThen_ok,Sem.run_pure],.inl rfl,Below.refl _ _,MExt.refl M,fun _ _=>Iff.rfl,fun _ _ _=>rfl,⟨fun _ _ _=>rfl,fun id m' h h0=>.inl ⟨id,m',h,h0,rfl⟩⟩,hR,h2⟩
def xtr {xs:List AV} {s:List UInt8} {v:AV}:xs.length<=(xIo xs s v).length/\(xIo xs s v).length<=xs.length+1:=by
 unfold xIo;split<;>simp
def xzv (hR:HR w A M B H) {o:Oper} {ρc:Operand->Value} {t:TypeId} {om ok ov:Operand} {xm xk xv:AV} {H':List Box} (ho:o.op=.mapUpdate t om ok ov\/o.op=.insert t om ok ov) (hm:Rel w A M (ρc om) xm) (hk:Rel w A M (ρc ok) xk) (hv:Rel w A M (ρc ov) xv) (h:absPutM P H t xm xk xv=some H') :
  Writes P o ρc w A M B (.tuple []) H':=by
 unfold absPutM at h;split at h
 case h_2=>simp at h
 rename_i n ver i j s kt et bc;split at h
 case h_2=>simp at h
 rename_i bx am ay;split at h
 case isFalse=>simp at h
 rename_i bf;obtain ⟨a0,ah,aq,ae,af⟩:=bf;cases h;obtain ⟨m,ag,J,bj,aa⟩:=xyC hR hm ay;obtain ⟨a8,be,ac,ap,ao,a5,bk⟩:=xjc ay;obtain ⟨es,clock,V,hcap⟩:=J.mapAt ac ap ao a5 bk aa;obtain ⟨t0,bd,bi⟩:=hk.str_inv;subst bi;have al:∀ x∈es.toList,∃ l,keyOf P kt x.key=some l:=fun x hx=>by
  obtain ⟨k,au,rfl⟩:=zq.1 hx;simp only [Array.length_toList] at au;obtain ⟨t',h1,_,h3⟩:=V.keys k es[k] (by simp [au])
  exact ⟨.string t'.data.toList,by simp only [Array.getElem_toList];rw [h1];exact xfV am h3⟩
 have a7:Rel w A xIl (ρc ov) xv:=hv.pure aq;have hsz:m.sz=2:=by rw [<-J.sz];exact a5
 have hsz':bx.xs.length=es.size:=V.size.symm;have hA:A m.b:=(J.guard aa).1 a0;have a6:∃ D O q,(Instr.mapUpdate t (ρc om) (ρc ok) (ρc ov)).run P w=.ok () (ChangeMaps.setBlock w m.b (.map O q))/\MapP O D q/\D.size=(xIo bx.xs t0.data.toList xv).length /\
   (∀ (k:Nat) (x:MapEntry),D[k]?=some x->∃ t:ByteArray,x.key=.string t/\((xIo bx.xs t0.data.toList xv).getD k .top).cells.getD 0 .top=.str t.data.toList/\t.size<=maxLen) /\
   (∀ (k:Nat) (x:MapEntry),D[k]?=some x->Rel w A xIl x.val (((xIo bx.xs t0.data.toList xv).getD k .top).cells.getD 1 .top)) /\
   (∀ (k l:Nat) (x y:MapEntry),D[k]?=some x->D[l]?=some y->x.key=y.key->k=l):=by
  rw [bj,bd];rcases xyv (val:=ρc ov) (Maps.string_keyed am) bc V.heap V.apart al (kl:=.string t0.data.toList) (xfV am (xiw af)) with ⟨⟨O,h1,hP⟩,h2⟩|⟨j0,e0,h1,h2,D,O,h3,h4,hP⟩
  . have ak:=V.miss h2;have hp:xIo bx.xs t0.data.toList xv=bx.xs++[.agg [.str t0.data.toList,xv]]:=by unfold xIo;rw [ak]
    have Q:∀ (k:Nat) (x:MapEntry),(es.push ⟨.string t0,ρc ov,clock⟩)[k]?=some x->(k<es.size/\es[k]?=some x)\/(k=es.size/\x=⟨.string t0,ρc ov,clock⟩):=fun k x hx=>by
     rw [Array.getElem?_push] at hx;split at hx
     . rename_i e;simp only [z6] at hx;exact .inr ⟨e,hx.symm⟩
     . rcases zK k es.size with h|h
       . exact .inl ⟨h,hx⟩
       . simp [Array.getElem?_eq_none h] at hx
    refine ⟨_,_,_,h1,hP,by rw [hp];simp [hsz'],fun k x hx=>?_,fun k x hx=>?_,fun k l x y hx hy e=>?_⟩
    . rw [hp];rcases Q k x hx with ⟨g1,g2⟩|⟨rfl,rfl⟩
      . obtain ⟨t',a1,a2,a3⟩:=V.keys k x g2;refine ⟨t',a1,?_,a3⟩;rw [<-a2];simp [z7,zQ,hsz',g1]
      . exact ⟨t0,rfl,by simp [z7,<-hsz',AV.cells],xiw af⟩
    . rw [hp];rcases Q k x hx with ⟨g1,g2⟩|⟨rfl,rfl⟩
      . have:=V.vals k x g2;simpa [z7,zQ,hsz',g1] using this
      . simpa [z7,<-hsz',AV.cells] using a7
    . rcases Q k x hx with ⟨g1,g2⟩|⟨rfl,rfl⟩<;>rcases Q l y hy with ⟨g3,g4⟩|⟨rfl,rfl⟩
      . exact V.apart k l x y g2 g4 e
      . exact absurd e (h2 x (List.mem_of_getElem? (by simpa using g2)))
      . exact absurd e.symm (h2 y (List.mem_of_getElem? (by simpa using g4)))
      . rfl
  . obtain ⟨ak,aw⟩:=V.hit h1 h2;have hp:xIo bx.xs t0.data.toList xv=bx.xs.set j0 (.agg [.str t0.data.toList,xv]):=by unfold xIo;rw [ak]
    have Q:∀ (k:Nat) (x:MapEntry),D[k]?=some x->(k≠j0/\es[k]?=some x)\/(k=j0/\x={ e0 with key:=.string t0,val:=ρc ov }):=fun k x hx=>by
     rw [<-Array.getElem?_toList,h3,List.getElem?_set] at hx;split at hx
     . rename_i e;subst e;split at hx
       . simp only [z6] at hx;exact .inr ⟨rfl,hx.symm⟩
       . simp at hx
     . rename_i e;exact .inl ⟨fun e'=>e e'.symm,by simpa using hx⟩
    refine ⟨_,_,_,h4,hP,by rw [hp,<-Array.length_toList,h3];simp [hsz'],fun k x hx=>?_,fun k x hx=>?_,fun k l x y hx hy e=>?_⟩
    . rw [hp];rcases Q k x hx with ⟨g1,g2⟩|⟨rfl,rfl⟩
      . obtain ⟨t',a1,a2,a3⟩:=V.keys k x g2;refine ⟨t',a1,?_,a3⟩;rw [<-a2];simp [z7,List.getElem?_set,show ¬ j0=k from fun e=>g1 e.symm]
      . exact ⟨t0,rfl,by simp [z7,aw,AV.cells],xiw af⟩
    . rw [hp];rcases Q k x hx with ⟨g1,g2⟩|⟨rfl,rfl⟩
      . have:=V.vals k x g2;simpa [z7,List.getElem?_set,show ¬ j0=k from fun e=>g1 e.symm] using this
      . simpa [z7,aw,AV.cells] using a7
    . have bb:es[j0]?=some e0:=by simpa using h1
      have ax:∀ (k:Nat) (x:MapEntry),D[k]?=some x->∃ y:MapEntry,es[k]?=some y/\y.key=x.key:=fun k x hx=>by
       rcases Q k x hx with ⟨g1,g2⟩|⟨rfl,rfl⟩
       . exact ⟨x,g2,rfl⟩
       . exact ⟨e0,bb,h2⟩
      obtain ⟨x',a1,a2⟩:=ax k x hx;obtain ⟨y',b1,b2⟩:=ax l y hy;exact V.apart k l x' y' a1 b1 (by rw [a2,b2,e])
 obtain ⟨D,O,q,r1,rP,r2,r3,r4,r5⟩:=a6;have bl:=xtr (xs:=bx.xs) (s:=t0.data.toList) (v:=xv);have az:MapB (ChangeMaps.setBlock w m.b (.map O q)) m.b D q:=⟨O,by simp [ChangeMaps.setBlock,J.lt aa],rP⟩
 have Z:∀ b,b≠m.b->(ChangeMaps.setBlock w m.b (.map O q)).heap[b]?=w.heap[b]?:=fun b hb=>by
  simp [ChangeMaps.setBlock,Array.getElem?_setIfInBounds,Ne.symm hb]
 have ab:(ChangeMaps.setBlock w m.b (.map O q)).heap.size=w.heap.size:=by simp [ChangeMaps.setBlock]
 have Y:∀ b,b<w.heap.size->¬ A b->(ChangeMaps.setBlock w m.b (.map O q)).heap[b]?=w.heap[b]?:=fun b _ hb=>Z b fun e=>hb (e▸hA)
 have ai:n<H.length:=xcP a8;have hR':HR (ChangeMaps.setBlock w m.b (.map O q)) A M B (H.set n ⟨ver,2,bx.ty,xIo bx.xs t0.data.toList xv,false,true⟩):=by
  refine hR.rebuild (fun k=>k=n) (fun k hk _=>zY (fun e=>hk e.symm)) (fun _ _=>rfl) (fun x m0 hx h0 c0=>⟨Z _ fun e=>hx ?_,fun h=>h⟩) Y (by rw [ab];exact zd _) (fun _ _ h=>h) (MExt.refl M) (fun x m0 hx h0=>?_) (fun x m1 x' m2 _ h1 h2 c1 c2 he=>hR.inj x x' m1 m2 h1 h2 c1 c2 he) (fun b hb=>by rw [ab];exact hR.lt b hb)
  . have:=hR.inj x (.b n) m0 m h0 ag c0 aa e;rw [this];rfl
  . cases x with
    | b k =>
     have hx:k=n:=hx;subst hx;rw [ag] at h0;cases h0;have ba:xIa m.ty=true:=by
      rw [<-J.ty];unfold rty;split
      . rw [ac];exact ac
      . exact ac
     refine ⟨⟨ver,2,bx.ty,xIo bx.xs t0.data.toList xv,false,true⟩,by rw [xbG];exact zM ai,be.symm.trans J.ver,hsz.symm,J.ty,J.capm,?_,fun y hy=>?_,J.low,fun h0=>by rw [ab];exact J.lt h0,fun h0=>?_,fun _=>⟨fun _=>hA,fun _=>rfl⟩⟩
     . show (xIo bx.xs t0.data.toList xv).length<=m.cap;rw [hcap];unfold xIX at ae;unfold maxLen;omega
     . rw [hsz];have W:(AV.agg [.str t0.data.toList,xv]).okElem 2=true:=xrF ah;have hy:y∈xIo bx.xs t0.data.toList xv:=hy;unfold xIo at hy;split at hy
       . rcases List.mem_or_eq_of_mem_set hy with hy|rfl
         . rw [<-hsz];exact J.ok y hy
         . exact W
       . rcases zH.1 hy with hy|hy
         . rw [<-hsz];exact J.ok y hy
         . simp only [zw] at hy;subst hy;exact W
     . let c':Array Value:=Array.ofFn (n:=maxLen*2) fun k=>match D[k.val / 2]? with
        | some x=>if k.val % 2=0 then x.key else x.val
        | none=>undef
       have bn:D.size<=maxLen:=by
        rw [r2];unfold xIX at ae;unfold maxLen;omega
       have a9:∀ (k:Nat) (x:MapEntry),D[k]?=some x->k<D.size:=fun k x hx=>by
        rcases zK k D.size with h|h
        . exact h
        . simp [Array.getElem?_eq_none h] at hx
       have hc':∀ (k:Nat) (x:MapEntry),D[k]?=some x->c'.getD (k*m.sz) undef=x.key/\c'.getD (k*m.sz+1) undef=x.val:=fun k x hx=>by
        have hk:=a9 k x hx;rw [hsz];have e1:k*2<maxLen*2:=by omega
        have e2:k*2+1<maxLen*2:=by omega
        constructor
        . rw [zv,Array.getElem?_ofFn,dif_pos e1];simp only [zi,Nat.mul_div_cancel _ (by omega:0<2),hx,Nat.mul_mod_left,if_true]
        . rw [zv,Array.getElem?_ofFn,dif_pos e2];have d1:(k*2+1) / 2=k:=by omega
          have d2:¬ (k*2+1) % 2=0:=by omega
          simp only [zi,d1,hx,d2,if_false]
       refine ⟨c',?_,by rw [hcap,hsz];exact Array.size_ofFn,fun i j hi hj=>?_⟩
       . unfold HoldsC;rw [ba];exact ⟨D,q,az,r2,hcap,hc',fun k x hx=>by obtain ⟨t',a1,_,a3⟩:=r3 k x hx;exact ⟨t',a1,a3⟩,r5⟩
       . have hi':i<D.size:=by rw [r2];exact hi
         obtain ⟨x,hx⟩:∃ x,D[i]?=some x:=⟨D[i],by simp [hi']⟩
         rw [hsz] at hj;have af:∀ j,j<2->xH9 bx.ty j=false:=fun j hj=>by
          rcases j with _|_|j
          . exact ap
          . exact ao
          . omega
         unfold MV xIw;simp only [af j hj];show Rel _ A xIl _ _;have an:∀ {v:Value} {x:AV},Rel w A xIl v x->Rel (ChangeMaps.setBlock w m.b (.map O q)) A xIl v x:=fun h=>h.mono Y (by rw [ab];exact zd _) (fun _ _ h=>h) (MExt.refl _)
         rcases j with _|_|j
         . rw [Nat.add_zero,(hc' i x hx).1];obtain ⟨t',a1,a2,_⟩:=r3 i x hx;show Rel _ A xIl _ (((xIo bx.xs t0.data.toList xv).getD i .top).cells.getD 0 .top);rw [a1,a2];exact .str t'
         . rw [(hc' i x hx).2];exact an (r4 i x hx)
         . omega
    | r k i' j' =>
     have hx:k=n:=hx;subst hx;obtain ⟨rb,k1,k2⟩:=hR.box _ m0 h0;have a4:isC bx.ty=true:=by
      cases hc:isC bx.ty with
      | true=>rfl
      | false=>rw [xaH hc] at ac;cases ac
     obtain ⟨e2,e3,e4,e5⟩:=xgH a8 a4 k1;have bo:2<=j':=by
      rcases j' with _|_|j'
      . rw [ap] at e2;cases e2
      . rw [ao] at e2;cases e2
      . omega
     have aj:∀ (xs:List AV),(∀ x,x∈xs->x.okElem 2=true)->(xs.getD i' .top).cells.getD j' .top=.top:=fun xs bh=>by
      rcases zK i' xs.length with h|h
      . have:=xaw (bh _ (xaI h));rw [z7 (l:=(xs.getD i' .top).cells),zA (by omega)];rfl
      . have:xs.getD i' .top=.top:=by rw [z7,zA h];rfl
        rw [this,z7,zA (by simp [AV.cells];omega)];rfl
     have ad:∀ x,x∈bx.xs->x.okElem 2=true:=fun x hx=>by rw [<-hsz];exact J.ok x hx
     refine ⟨rb,?_,k2.mono (fun bg=>Z _ fun e=>?_) Y (by rw [ab];exact zd _) (fun _ _ h=>h) k2.guard (MExt.refl M)⟩
     . rw [xeP (zM ai) (by exact a4) (by exact e2) rfl (by show i'<(xIo bx.xs t0.data.toList xv).length;omega)]
       rw [e5,aj bx.xs ad];have W:((xIo bx.xs t0.data.toList xv).getD i' .top).cells.getD j' .top=.top:=aj _ fun y hy=>by
        have W:(AV.agg [.str t0.data.toList,xv]).okElem 2=true:=xrF ah;unfold xIo at hy;split at hy
        . rcases List.mem_or_eq_of_mem_set hy with hy|rfl
          . exact ad y hy
          . exact W
        . rcases zH.1 hy with hy|hy
          . exact ad y hy
          . simp only [zw] at hy;subst hy;exact W
       have e6:xIA ⟨ver,2,bx.ty,xIo bx.xs t0.data.toList xv,false,true⟩ .top=xIA bx .top:=by simp [xIA,a0]
       exact congrArg some ((congrArg (xIA ⟨ver,2,bx.ty,xIo bx.xs t0.data.toList xv,false,true⟩) W).trans e6)
     . have:=hR.inj _ (.b k) m0 m h0 ag bg aa e;cases this
 refine ⟨.skip,ChangeMaps.setBlock w m.b (.map O q),A,M,undef,?_,.inr ⟨rfl,rfl⟩,⟨rfl,rfl,rfl,by rw [ab];exact zd _,fun k hk=>Z k fun e=>by have:=J.low aa;omega⟩,MExt.refl M,fun _ _=>Iff.rfl,Y,⟨fun b _ hb=>Z b fun e=>hb (.b n) m ag aa e.symm,fun id m' h h0=>.inl ⟨id,m',h,h0,rfl⟩⟩,hR',.tuple #[] [] rfl (by simp)⟩
 rcases ho with ho|ho<;>simp only [execOp,ho,Sem.run_bind,r1,Result.andThen_ok,Sem.run_pure]
def getMapR (H:List Box) (n:Nat) (ver:Nat):Option Box:=match H[n]? with
 | some bx=>if bx.ver=ver/\xIa bx.ty=true/\xH9 bx.ty 0=false/\xH9 bx.ty 1=true/\bx.sz=2/\bx.pm=true then some bx else none
 | none=>none
def xic {H:List Box} {n ver:Nat} {bx:Box} (h:getMapR H n ver=some bx):H[n]?=some bx/\bx.ver=ver/\xIa bx.ty=true/\xH9 bx.ty 0=false/\xH9 bx.ty 1=true/\bx.sz=2/\bx.pm=true:=by grind [getMapR]
structure MapKs (w:World) (m:MB) (xs:List AV) (es:Array MapEntry) (clock:Nat):Prop where
 heap:MapB w m.b es clock
 size:es.size=xs.length
 keys:∀ (k:Nat) (x:MapEntry),es[k]?=some x->∃ t:ByteArray,x.key=.string t/\(xs.getD k .top).cells.getD 0 .top=.str t.data.toList/\t.size<=maxLen
 apart:∀ (k l:Nat) (x y:MapEntry),es[k]?=some x->es[l]?=some y->x.key=y.key->k=l
def MapKs.miss {w:World} {m:MB} {xs:List AV} {es:Array MapEntry} {clock:Nat} (h:MapKs w m xs es clock) {t:ByteArray} (q:∀ x∈es.toList,x.key≠.string t):mapIx xs t.data.toList=none :=
 xo4 fun i hi=>by
  have hi':i<es.size:=by rw [h.size];exact hi
  obtain ⟨t',h1,h2,_⟩:=h.keys i es[i] (by simp [hi'])
  rw [h2];show (t'.data.toList==t.data.toList)=false;rw [beq_eq_false_iff_ne];intro e;exact q es[i] (by simp) (by rw [h1,xnG e])
def MapKs.hit {w:World} {m:MB} {xs:List AV} {es:Array MapEntry} {clock:Nat} (h:MapKs w m xs es clock) {t:ByteArray} {j:Nat} {e0:MapEntry} (hj:es.toList[j]?=some e0) (hk:e0.key=.string t):mapIx xs t.data.toList=some j/\j<xs.length:=by
 have q:es[j]?=some e0:=by simpa using hj
 have hj':j<es.size:=by
  rcases zK j es.size with h|h
  . exact h
  . simp [Array.getElem?_eq_none h] at q
 have D:j<xs.length:=by rw [<-h.size];exact hj'
 refine ⟨xmJ D ?_ fun i hi=>?_,D⟩
 . obtain ⟨t',h1,h2,_⟩:=h.keys j e0 q;rw [h2];rw [hk] at h1;injection h1 with h1;rw [h1];show (t'.data.toList==t'.data.toList)=true;exact beq_self_eq_true _
 . have hi':i<es.size:=by omega
   obtain ⟨t',h1,h2,_⟩:=h.keys i es[i] (by simp [hi'])
   rw [h2];show (t'.data.toList==t.data.toList)=false;rw [beq_eq_false_iff_ne];intro e;have:=h.apart i j es[i] e0 (by simp [hi']) q (by rw [h1,hk,xnG e])
   omega
def xmH {t:TypeId} (h:xIa t=true):xIa (rty t)=true:=by
 unfold rty;split
 . rw [h];exact h
 . exact h
def BoxAt.mapKs {w:World} {A:Nat->Prop} {M:Id->Option MB} {B:Nat} {id:Id} {m:MB} {bx:Box} (h:BoxAt w A M B id m bx) (hm:xIa bx.ty=true) (h0:xH9 bx.ty 0=false) (hs:bx.sz=2) (hp:bx.pm=true) (hcap:0<m.cap) :
  ∃ es clock,MapKs w m bx.xs es clock/\m.cap=maxLen/\∀ (k:Nat) (x:MapEntry),es[k]?=some x->Rel w A (MV M bx 1) x.val (xIw id.base k 1 bx.ty ((bx.xs.getD k .top).cells.getD 1 .top)):=by
 obtain ⟨c,c1,c2,c3⟩:=h.cells hcap;have J:xIa m.ty=true:=by rw [<-h.ty];exact xmH hm
 unfold HoldsC at c1;rw [J] at c1;obtain ⟨es,clock,d1,d2,d3,d4,d5,d6⟩:=c1;have hsz:m.sz=2:=by rw [<-h.sz];exact hs
 have q:∀ (k:Nat) (x:MapEntry),es[k]?=some x->k<bx.xs.length:=fun k x hx=>by
  rw [<-d2];rcases zK k es.size with h|h
  . exact h
  . simp [Array.getElem?_eq_none h] at hx
 refine ⟨es,clock,⟨d1,d2,fun k x hx=>?_,d6⟩,d3,fun k x hx=>?_⟩
 . obtain ⟨t,ht,D⟩:=d5 k x hx;have hk:=q k x hx;have h4:=c3 k 0 hk (by rw [hsz];omega)
   unfold MV xIw at h4;simp only [h0,hp] at h4;rw [Nat.add_zero,(d4 k x hx).1,ht] at h4;exact ⟨t,ht,xsP h4 (xug h.ok hk (by rw [hsz];omega)) (fun id ver i j e=>by rw [e] at h4;obtain ⟨_,hh,_⟩:=Rel.own_inv h4;cases hh) (fun id ver i j e=>by rw [e] at h4;obtain ⟨_,hh,_⟩:=Rel.osl_inv h4;cases hh),D⟩
 . have h4:=c3 k 1 (q k x hx) (by rw [hsz];omega)
   rw [(d4 k x hx).2] at h4;exact h4
def absLookR (P:Program) (H:List Box) (t:TypeId) (m k:AV) (c:Bool):Option AV:=match m,k,P.underlying t with
 | .own (.b n) ver _ _,.str s,some (.map kt et)=>match P.underlying kt,xH7 P et,getMapR H n ver with
  | some .string,some te,some bx=>if s.length<=xIX then some (match mapIx bx.xs s with
   | some i=>match c with
    | true=>.tuple [xJc n i 1 ((bx.xs.getD i .top).cells.getD 1 .top),.bool true]
    | false=>xJc n i 1 ((bx.xs.getD i .top).cells.getD 1 .top)
   | none=>match c with
    | true=>.tuple [te.zero,.bool false]
    | false=>te.zero) else none
  | _,_,_=>none
 | _,_,_=>none
def lookLR {P:Program} {H:List Box} {t:TypeId} {m k r:AV} {c:Bool} (h:absLookR P H t m k c=some r):absLookL P H t m k c=none:=by
 cases hl:absLookL P H t m k c with
 | none=>rfl
 | some r' =>
  exfalso;obtain ⟨n,ver,i,j,bx,rfl,hb⟩:=xpu hl;obtain ⟨b1,b2,b3,b4,b5,_⟩:=xjc hb;unfold absLookR at h;split at h
  case h_2=>simp at h
  rename AV.own (Id.b n) ver i j=_=>heq
  cases heq;split at h
  case h_2=>simp at h
  rename_i q;obtain ⟨c1,c2,c3,c4,c5,_⟩:=xic q;rw [b1] at c1;cases c1;rw [b5] at c5;cases c5
def deadR (xs:List AV) (s:List UInt8) (n:Nat):Bool:=match mapIx xs s with
 | some i=>match deadLen ((xs.getD i .top).cells.getD 1 .top) with
  | some l0=>decide (l0<n)
  | none=>false
 | none=>true
def absPutR (P:Program) (H:List Box) (t:TypeId) (m k v:AV):Option (List Box):=match m,k,v,P.underlying t with
 | .own (.b n) ver _ _,.str s,.osl (.b id) ver2 off len,some (.map kt _)=>match P.underlying kt,getMapR H n ver,xIb H (.b id) ver2 with
  | some .string,some bx,some b2=>if bx.frz=false/\b2.frz=false/\b2.pm=true/\isC b2.ty=false/\b2.ty=rowTy bx.ty/\off=0/\len=b2.xs.length/\bx.xs.length<xIX/\s.length<=xIX/\deadR bx.xs s len=true then
   some ((H.set id ⟨ver2+1,b2.sz,b2.ty,[],false,true⟩).set n ⟨ver,2,bx.ty,xIo bx.xs s (.list b2.sz b2.xs),false,true⟩) else none
  | _,_,_=>none
 | _,_,_,_=>none
def xif:∀ {xs:List AV} {s:List UInt8} {i:Nat},mapIx xs s=some i->i<xs.length
 | [],s,i,h=>by simp [mapIx] at h
 | e::es,s,i,h=>by
  simp only [mapIx] at h;split at h
  . cases h;simp
  . cases hm:mapIx es s with
    | none=>rw [hm] at h;simp at h
    | some j =>
     rw [hm] at h;simp only [Option.map_some,z6] at h;have:=xif hm;subst h;simp;omega
def putIx (xs:List AV) (s:List UInt8):Nat:=match mapIx xs s with
 | some i=>i
 | none=>xs.length
def xkA {xs:List AV} {s:List UInt8} {v:AV} (k:Nat):(xIo xs s v).getD k .top=if k=putIx xs s then .agg [.str s,v] else xs.getD k .top:=by
 unfold xIo putIx;cases h:mapIx xs s with
 | some i =>
  have:=xif h;by_cases hk:k=i
  . subst hk;simp [z7,this]
  . simp [z7,List.getElem?_set,hk,show ¬ i=k from fun e=>hk e.symm]
 | none =>
  by_cases hk:k=xs.length
  . subst hk;simp [z7]
  . simp only [hk,if_false];rcases zK k xs.length with g|g
    . simp [z7,zQ,g]
    . rw [z7,z7,zA (by simp;omega),zA g]
def xCD {xs:List AV} {s:List UInt8} {v:AV}:putIx xs s<(xIo xs s v).length:=by
 unfold xIo putIx;cases h:mapIx xs s with
 | some i=>have:=xif h;simpa using this
 | none=>simp
section
variable {P : Program} {w : World} {A : Nat -> Prop} {M : Id -> Option MB} {B : Nat} {H : List Box}
def xv0 (hR:HR w A M B H) {v:Value} {n ver i j:Nat} {bx:Box} (h:Rel w A M v (.own (.b n) ver i j)) (hb:getMapR H n ver=some bx) :
  ∃ m,M (.b n)=some m/\BoxAt w A M B (.b n) m bx/\v=.map (some m.b)/\0<m.cap:=by
 obtain ⟨J,D,O,_⟩:=xic hb;obtain ⟨m,hm,hv,h1,he⟩:=Rel.own_inv h;obtain ⟨bx',h2,h3⟩:=hR.box _ m hm;rw [xbG,J] at h2;cases h2;refine ⟨m,hm,h3,?_⟩;have q:xIa m.ty=true:=by rw [<-h3.ty];exact xmH O
 have h0:=he (by rw [<-D,h3.ver])
 unfold ptrOf at h0;rw [q] at h0;cases hc:m.cap with
 | zero =>
  rw [hc] at h0;simp only at h0;rw [h0] at h1;cases h1
 | succ k =>
  rw [hc] at h0;exact ⟨h0,Nat.succ_pos k⟩
def xua (hR:HR w A M B H) {ρc:Operand->Value} {t:TypeId} {om ok:Operand} {c:Bool} {xm xk r:AV} (hm:Rel w A M (ρc om) xm) (hk:Rel w A M (ρc ok) xk) (h:absLookR P H t xm xk c=some r) :
  ∃ v,(Instr.lookup t (ρc om) (ρc ok) c).run P w=.ok v w/\Rel w A M v r:=by
 unfold absLookR at h;split at h
 case h_2=>simp at h
 rename_i n ver i j s kt et aa;split at h
 case h_2=>simp at h
 rename_i te bx Q ad W;split at h
 case isFalse=>simp at h
 rename_i ab;simp only [z6] at h;obtain ⟨m,ao,af,ae,ag⟩:=xv0 hR hm W;obtain ⟨aq,ap,am,al,ah,ac,ak⟩:=xic W;obtain ⟨es,clock,q,_,J⟩:=af.mapKs am al ac ak ag;obtain ⟨t0,ai,Z⟩:=hk.str_inv;subst Z;have O:∀ x∈es.toList,∃ l,keyOf P kt x.key=some l:=fun x hx=>by
  obtain ⟨k,V,rfl⟩:=zq.1 hx;simp only [Array.length_toList] at V;obtain ⟨t',h1,_,h3⟩:=q.keys k es[k] (by simp [V])
  exact ⟨.string t'.data.toList,by simp only [Array.getElem_toList];rw [h1];exact xfV Q h3⟩
 obtain ⟨z,hz,aj⟩:=xr6 ad w;have Y:Rel w A M z te.zero:=by rw [aj];exact xcZ w A M z
 rw [ae,ai,<-h];rcases xvT c (Maps.string_keyed Q) aa hz q.heap O (kl:=.string t0.data.toList) (xfV Q (xiw ab)) with ⟨h1,h2⟩|⟨j0,e0,h1,h2,h3⟩
 . have D:=q.miss h2;refine ⟨_,h1,?_⟩;rw [D];cases c
   . simpa using Y
   . simp only [if_true];exact .tuple #[z,.bool false] _ rfl fun i hi=>by
      rcases i with _|_|i
      . exact Y
      . exact .bool false
      . simp at hi;omega
 . obtain ⟨D,an⟩:=q.hit h1 h2;have hv:=(J j0 e0 (by simpa using h1)).unmv
   unfold xIw at hv;rw [ah] at hv;change Rel w A M e0.val (xJc n j0 1 ((bx.xs.getD j0 .top).cells.getD 1 .top)) at hv;refine ⟨_,h3,?_⟩;rw [D];cases c
   . simpa using hv
   . simp only [if_true];exact .tuple #[e0.val,.bool true] _ rfl fun i hi=>by
      rcases i with _|_|i
      . exact hv
      . exact .bool true
      . simp at hi;omega
def xwJ (hR:HR w A M B H) {o:Oper} {ρc:Operand->Value} {t:TypeId} {om ok:Operand} {c:Bool} {xm xk r:AV} (ho:o.op=.lookup t om ok c) (hm:Rel w A M (ρc om) xm) (hk:Rel w A M (ρc ok) xk) (h:absLookR P H t xm xk c=some r) :
  Writes P o ρc w A M B r H:=by
 obtain ⟨v,h1,h2⟩:=xua hR hm hk h;exact ⟨.value v,w,A,M,v,by simp only [execOp,ho,Sem.run_bind,h1,Result.andThen_ok,Sem.run_pure],.inl rfl,Below.refl _ _,MExt.refl M,fun _ _=>Iff.rfl,fun _ _ _=>rfl,⟨fun _ _ _=>rfl,fun id m' h h0=>.inl ⟨id,m',h,h0,rfl⟩⟩,hR,h2⟩
def MapKs.put {m:MB} {xs:List AV} {es:Array MapEntry} {clock:Nat} (J:MapKs w m xs es clock) {t kt et:TypeId} (ac:P.underlying t=some (.map kt et)) (Z:P.underlying kt=some .string) {t0:ByteArray} (W:t0.data.toList.length<=xIX) (val:Value) (v:AV) :
  ∃ O V clock',(Instr.mapUpdate t (.map (some m.b)) (.string t0) val).run P w=.ok () (ChangeMaps.setBlock w m.b (.map V clock'))/\MapP V O clock'/\O.size=(xIo xs t0.data.toList v).length /\
   (∀ (k:Nat) (x:MapEntry),O[k]?=some x->∃ t:ByteArray,x.key=.string t/\((xIo xs t0.data.toList v).getD k .top).cells.getD 0 .top=.str t.data.toList/\t.size<=maxLen) /\
   (∀ (k l:Nat) (x y:MapEntry),O[k]?=some x->O[l]?=some y->x.key=y.key->k=l) /\
   (∀ (k:Nat) (x:MapEntry),O[k]?=some x->(k≠putIx xs t0.data.toList/\es[k]?=some x)\/(k=putIx xs t0.data.toList/\x.val=val)):=by
 have hsz':xs.length=es.size:=J.size.symm;have Y:∀ x∈es.toList,∃ l,keyOf P kt x.key=some l:=fun x hx=>by
  obtain ⟨k,aa,rfl⟩:=zq.1 hx;simp only [Array.length_toList] at aa;obtain ⟨t',h1,_,h3⟩:=J.keys k es[k] (by simp [aa])
  exact ⟨.string t'.data.toList,by simp only [Array.getElem_toList];rw [h1];exact xfV Z h3⟩
 rcases xyv (val:=val) (Maps.string_keyed Z) ac J.heap J.apart Y (kl:=.string t0.data.toList) (xfV Z (xiw W)) with ⟨⟨V,h1,hP⟩,h2⟩|⟨j0,e0,h1,h2,O,V,h3,h4,hP⟩
 . have Q:=J.miss h2;have D:putIx xs t0.data.toList=xs.length:=by unfold putIx;rw [Q]
   have hp:(xIo xs t0.data.toList v).length=xs.length+1:=by unfold xIo;rw [Q];simp
   have q:∀ (k:Nat) (x:MapEntry),(es.push ⟨.string t0,val,clock⟩)[k]?=some x->(k<es.size/\es[k]?=some x)\/(k=es.size/\x=⟨.string t0,val,clock⟩):=fun k x hx=>by
    rw [Array.getElem?_push] at hx;split at hx
    . rename_i e;simp only [z6] at hx;exact .inr ⟨e,hx.symm⟩
    . rcases zK k es.size with h|h
      . exact .inl ⟨h,hx⟩
      . simp [Array.getElem?_eq_none h] at hx
   refine ⟨_,_,_,h1,hP,by rw [hp];simp [hsz'],fun k x hx=>?_,fun k l x y hx hy e=>?_,fun k x hx=>?_⟩
   . rw [xkA,D];rcases q k x hx with ⟨g1,g2⟩|⟨rfl,rfl⟩
     . obtain ⟨t',a1,a2,a3⟩:=J.keys k x g2;exact ⟨t',a1,by rw [if_neg (by omega)];exact a2,a3⟩
     . exact ⟨t0,rfl,by rw [if_pos hsz'.symm];rfl,xiw W⟩
   . rcases q k x hx with ⟨g1,g2⟩|⟨rfl,rfl⟩<;>rcases q l y hy with ⟨g3,g4⟩|⟨rfl,rfl⟩
     . exact J.apart k l x y g2 g4 e
     . exact absurd e (h2 x (List.mem_of_getElem? (by simpa using g2)))
     . exact absurd e.symm (h2 y (List.mem_of_getElem? (by simpa using g4)))
     . rfl
   . rcases q k x hx with ⟨g1,g2⟩|⟨rfl,rfl⟩
     . exact .inl ⟨by rw [D];omega,g2⟩
     . exact .inr ⟨by rw [D];exact hsz'.symm,rfl⟩
 . obtain ⟨Q,ae⟩:=J.hit h1 h2;have D:putIx xs t0.data.toList=j0:=by unfold putIx;rw [Q]
   have hp:(xIo xs t0.data.toList v).length=xs.length:=by unfold xIo;rw [Q];simp
   have q:∀ (k:Nat) (x:MapEntry),O[k]?=some x->(k≠j0/\es[k]?=some x)\/(k=j0/\x={ e0 with key:=.string t0,val:=val }):=fun k x hx=>by
    rw [<-Array.getElem?_toList,h3,List.getElem?_set] at hx;split at hx
    . rename_i e;subst e;split at hx
      . simp only [z6] at hx;exact .inr ⟨rfl,hx.symm⟩
      . simp at hx
    . rename_i e;exact .inl ⟨fun e'=>e e'.symm,by simpa using hx⟩
   refine ⟨_,_,_,h4,hP,by rw [hp,<-Array.length_toList,h3];simp [hsz'],fun k x hx=>?_,fun k l x y hx hy e=>?_,fun k x hx=>?_⟩
   . rw [xkA,D];rcases q k x hx with ⟨g1,g2⟩|⟨rfl,rfl⟩
     . obtain ⟨t',a1,a2,a3⟩:=J.keys k x g2;exact ⟨t',a1,by rw [if_neg g1];exact a2,a3⟩
     . exact ⟨t0,rfl,by rw [if_pos rfl];rfl,xiw W⟩
   . have ad:es[j0]?=some e0:=by simpa using h1
     have ab:∀ (k:Nat) (x:MapEntry),O[k]?=some x->∃ y:MapEntry,es[k]?=some y/\y.key=x.key:=fun k x hx=>by
      rcases q k x hx with ⟨g1,g2⟩|⟨rfl,rfl⟩
      . exact ⟨x,g2,rfl⟩
      . exact ⟨e0,ad,h2⟩
     obtain ⟨x',a1,a2⟩:=ab k x hx;obtain ⟨y',b1,b2⟩:=ab l y hy;exact J.apart k l x' y' a1 b1 (by rw [a2,b2,e])
   . rcases q k x hx with ⟨g1,g2⟩|⟨rfl,rfl⟩
     . exact .inl ⟨by rw [D];exact g1,g2⟩
     . exact .inr ⟨D.symm,rfl⟩
end
section
variable {P : Program} {w : World} {A : Nat -> Prop} {M : Id -> Option MB} {B : Nat} {H : List Box}
def xzy (hR:HR w A M B H) {o:Oper} {ρc:Operand->Value} {t:TypeId} {om ok ov:Operand} {xm xk xv:AV} {H':List Box} (ho:o.op=.mapUpdate t om ok ov\/o.op=.insert t om ok ov) (hm:Rel w A M (ρc om) xm) (hk:Rel w A M (ρc ok) xk) (hv:Rel w A M (ρc ov) xv) (h:absPutR P H t xm xk xv=some H') :
  Writes P o ρc w A M B (.tuple []) H':=by
 unfold absPutR at h;split at h
 case h_2=>simp at h
 rename_i n ver i j s id aa off len kt et b7;split at h
 case h_2=>simp at h
 rename_i bx b2 b9 bg a5;split at h
 case isFalse=>simp at h
 rename_i ce;obtain ⟨bl,bh,bq,ai,bp,rfl,rfl,ba,b8,O⟩:=ce;cases h;obtain ⟨m,be,Y,cj,an⟩:=xv0 hR hm bg;obtain ⟨az,cd,bn,bu,ap,bo,cn⟩:=xic bg;obtain ⟨es,clock,ci,hcap,bb⟩:=Y.mapKs bn bu bo cn an;obtain ⟨t0,cb,ch⟩:=hk.str_inv;subst ch;obtain ⟨m2,a2,al,V,b5,cp,ct⟩:=xil hR hv a5;obtain ⟨ag,a0⟩:=xaJ a5;rw [xbG] at ag;have ao:isC bx.ty=true:=xeQ ap;have hne:id≠n:=fun e=>by
  subst e;rw [az] at ag;cases ag;rw [ai] at ao;cases ao
 have hsz:m.sz=2:=by rw [<-Y.sz];exact bo
 have hA:A m.b:=(Y.guard an).1 bl;have b0:xIa m.ty=true:=by rw [<-Y.ty];exact xmH bn
 obtain ⟨Z,ae,q,r1,rP,r2,r3,r5,r4⟩:=ci.put b7 b9 b8 (ρc ov) (.list b2.sz b2.xs);generalize W:putIx bx.xs t0.data.toList=ix at r4;have bi:MapB (ChangeMaps.setBlock w m.b (.map ae q)) m.b Z q:=⟨ae,by simp [ChangeMaps.setBlock,Y.lt an],rP⟩
 have ak:∀ b,b≠m.b->(ChangeMaps.setBlock w m.b (.map ae q)).heap[b]?=w.heap[b]?:=fun b hb=>by
  simp [ChangeMaps.setBlock,Array.getElem?_setIfInBounds,Ne.symm hb]
 have ah:(ChangeMaps.setBlock w m.b (.map ae q)).heap.size=w.heap.size:=by simp [ChangeMaps.setBlock]
 have Q:∀ b,b<w.heap.size->¬ A b->(ChangeMaps.setBlock w m.b (.map ae q)).heap[b]?=w.heap[b]?:=fun b _ hb=>ak b fun e=>hb (e▸hA)
 have bk:n<H.length:=xcP az;have cg:id<H.length:=xcP ag;let M':Id->Option MB:=fun x=>if x=.b id then some ⟨m2.b,m2.ver+1,m2.sz,0,m2.ty⟩ else if x=.r n ix 1 then some ⟨m2.b,2*b2.xs.length,m2.sz,m2.cap,m2.ty⟩ else M x
 have aq:M' (.b id)=some ⟨m2.b,m2.ver+1,m2.sz,0,m2.ty⟩:=by simp [M']
 have am:M' (.r n ix 1)=some ⟨m2.b,2*b2.xs.length,m2.sz,m2.cap,m2.ty⟩:=by simp [M']
 have af:∀ x:Id,x≠.b id->x≠.r n ix 1->M' x=M x:=fun x h1 h2=>by simp [M',h1,h2]
 have bt:∀ m0,M (.r n ix 1)=some m0->m0.ver<2*b2.xs.length:=fun m0 h0=>by
  obtain ⟨rb,k1,k2⟩:=hR.box _ m0 h0;obtain ⟨k4,k5,k6,k7⟩:=xgH az ao k1;have k8:=k2.ver;rw [k7] at k8;unfold putIx at W;unfold deadR at O;cases hi:mapIx bx.xs t0.data.toList with
  | none =>
   rw [hi] at W;simp only at W;omega
  | some i =>
   rw [hi] at W O;simp only at W O;subst W;unfold deadLen at O;split at O
   . rename_i l0 a6;split at a6
     . rename_i kk l hl;simp only [z6] at a6;simp only [zm] at O;rw [hl] at k8;simp only [xIA,rowLen] at k8;omega
     . simp at a6
   . simp at O
 have ac:MExt M M':=fun x m0 h0=>by
  by_cases e1:x=.b id
  . subst e1;rw [al] at h0;cases h0;exact ⟨_,aq,.inr (Nat.lt_succ_self _)⟩
  . by_cases e2:x=.r n ix 1
    . subst e2;exact ⟨_,am,.inr (bt m0 h0)⟩
    . exact ⟨m0,by rw [af x e1 e2];exact h0,.inl rfl⟩
 have au:∀ x m',M' x=some m'->0<m'.cap->∃ y m0,M y=some m0/\m0.b=m'.b/\m0.cap=m'.cap/\(x=.r n ix 1/\y=.b id\/x=y/\y≠.b id/\y≠.r n ix 1):=fun x m' h h0=>by
  by_cases e1:x=.b id
  . subst e1;rw [aq] at h;cases h;exact absurd h0 (by simp)
  . by_cases e2:x=.r n ix 1
    . subst e2;rw [am] at h;cases h;exact ⟨_,m2,al,rfl,rfl,.inl ⟨rfl,rfl⟩⟩
    . rw [af x e1 e2] at h;exact ⟨x,m',h,rfl,rfl,.inr ⟨rfl,e1,e2⟩⟩
 have bf:∀ (x:Id) m1 x' m2,M' x=some m1->M' x'=some m2->0<m1.cap->0<m2.cap->m1.b=m2.b->x=x':=fun x m1 x' m2 h1 h2 c1 c2 he=>by
  obtain ⟨y,n1,a1,a2,a3,a4⟩:=au x m1 h1 c1;obtain ⟨y',n2,b1,b2,b3,b4⟩:=au x' m2 h2 c2;have:=hR.inj y y' n1 n2 a1 b1 (by omega) (by omega) (by rw [a2,b2,he])
  subst this;rcases a4 with ⟨rfl,e1⟩|⟨rfl,e1,_⟩<;>rcases b4 with ⟨rfl,e2⟩|⟨rfl,e2,_⟩
  . rfl
  . exact absurd e1 e2
  . exact absurd e2 e1
  . rfl
 have ad:∀ (x:Id) m0,x≠.b n->M x=some m0->0<m0.cap->(ChangeMaps.setBlock w m.b (.map ae q)).heap[m0.b]?=w.heap[m0.b]?:=fun x m0 hx h0 c0=>ak m0.b fun e=>hx (hR.inj x (.b n) m0 m h0 be c0 an e)
 generalize ab:xIo bx.xs t0.data.toList (.list b2.sz b2.xs)=J at r2 r3;have aw:∀ k,J.getD k .top=if k=ix then .agg [.str t0.data.toList,.list b2.sz b2.xs] else bx.xs.getD k .top:=fun k=>by rw [<-ab,<-W];exact xkA k
 have co:J.length<=bx.xs.length+1:=by rw [<-ab];exact xtr.2
 have cf:bx.xs.length<=J.length:=by rw [<-ab];exact xtr.1
 have bd:ix<J.length:=by rw [<-ab,<-W];exact xCD
 have b6:ix<=bx.xs.length:=by
  rw [<-W];unfold putIx;cases hi:mapIx bx.xs t0.data.toList with
  | none=>exact zd _
  | some i=>exact Nat.le_of_lt (xif hi)
 have ax:∀ k,k<J.length->k≠ix->k<bx.xs.length:=fun k hk hne=>by
  unfold xIo at ab;unfold putIx at W;cases hi:mapIx bx.xs t0.data.toList with
  | none=>rw [hi] at W;simp only at W;omega
  | some i=>rw [hi] at ab;rw [<-ab] at hk;simpa using hk
 have bc:((H.set id ⟨aa+1,b2.sz,b2.ty,[],false,true⟩).set n ⟨ver,2,bx.ty,J,false,true⟩)[n]?=some ⟨ver,2,bx.ty,J,false,true⟩:=zM (by simpa using bk)
 have bj:((H.set id ⟨aa+1,b2.sz,b2.ty,[],false,true⟩).set n ⟨ver,2,bx.ty,J,false,true⟩)[id]?=some ⟨aa+1,b2.sz,b2.ty,[],false,true⟩:=by
  rw [zY (Ne.symm hne),zM cg]
 have a8:∀ k,xH9 bx.ty k=true->k=1:=fun k hk=>by rw [xoO hk,<-xoO ap]
 have hR':HR (ChangeMaps.setBlock w m.b (.map ae q)) A M' B ((H.set id ⟨aa+1,b2.sz,b2.ty,[],false,true⟩).set n ⟨ver,2,bx.ty,J,false,true⟩):=by
  refine hR.rebuild (fun k=>k=n\/k=id) (fun k hk cq=>?_) (fun x D=>af x (fun e=>D (.inr (by rw [e];rfl))) fun e=>D (.inl (by rw [e];rfl))) (fun x m0 D h0 c0=>⟨ad x m0 (fun e=>D (.inl (by rw [e];rfl))) h0 c0,fun h=>h⟩) Q (by rw [ah];exact zd _) (fun _ _ h=>h) ac (fun x m' hS D=>?_) (fun x m1 x' m2 _ h1 h2 c1 c2 he=>bf x m1 x' m2 h1 h2 c1 c2 he) (fun b hb=>by rw [ah];exact hR.lt b hb)
  . rw [zY (fun e=>hk (.inl e.symm)),zY (fun e=>hk (.inr e.symm))]
  . by_cases e1:x=.b id
    . subst e1;rw [aq] at D;cases D;have hc:∀ {p:Prop},0<(0:Nat)->p:=fun h=>absurd h (by simp)
      exact ⟨(⟨aa+1,b2.sz,b2.ty,[],false,true⟩:Box),bj,by simp only;rw [<-V.ver,a0],V.sz,V.ty,zR _,zR _,fun x hx=>by simp at hx,hc,hc,hc,hc⟩
    . by_cases e2:x=.r n ix 1
      . subst e2;rw [am] at D;cases D;have ck:getB ((H.set id ⟨aa+1,b2.sz,b2.ty,[],false,true⟩).set n ⟨ver,2,bx.ty,J,false,true⟩) (.r n ix 1)=some ⟨2*b2.xs.length,b2.sz,rowTy bx.ty,b2.xs,false,true⟩:=by
         rw [xeP bc ao ap rfl bd];show some (xIA _ ((J.getD ix .top).cells.getD 1 .top))=_;rw [aw,if_pos rfl];rfl
        have k4:=V.mono (w':=ChangeMaps.setBlock w m.b (.map ae q)) (A':=A) (M':=M') (fun h0=>ad (.b id) m2 (fun e=>hne (by injection e)) al h0) Q (by rw [ah];exact zd _) (fun _ _ h=>h) V.guard ac
        refine ⟨_,ck,rfl,k4.sz,by rw [<-bp];exact k4.ty,k4.capm,k4.fits,k4.ok,k4.low,k4.lt,fun h0=>?_,fun h0=>?_⟩
        . obtain ⟨cc,c1,c2,c3⟩:=k4.cells h0;refine ⟨cc,c1,c2,fun i' j' a7 hk=>?_⟩
          have h4:=c3 i' j' a7 hk;rw [xar ai,xax ai,bq] at h4;rw [xar (xbQ _),xax (bx:=⟨2*b2.xs.length,b2.sz,rowTy bx.ty,b2.xs,false,true⟩) (xbQ _)];exact h4
        . have:=k4.guard h0;rw [bh] at this;exact this
      . by_cases aj:x.base=id
        . rw [af x e1 e2] at D;obtain ⟨bx',k1,k2⟩:=hR.box x m' D;cases x with
          | b k=>exact absurd (by rw [<-aj];rfl) e1
          | r k i' j' =>
           simp only [Id.base] at aj;subst aj;rw [xei ag ai] at k1;cases k1;exact ⟨tombB,xei bj ai,k2.mono (fun h0=>ad _ m' (fun e=>by cases e) D h0) Q (by rw [ah];exact zd _) (fun _ _ h=>h) k2.guard ac⟩
        have ay:x.base=n:=by
         rcases hS with h|h
         . exact h
         . exact absurd h aj
        rw [af x e1 e2] at D;obtain ⟨bx',k1,k2⟩:=hR.box x m' D;cases x with
        | r n' i' j' =>
         simp only [Id.base] at ay;subst ay;have k3:getB ((H.set id ⟨aa+1,b2.sz,b2.ty,[],false,true⟩).set n' ⟨ver,2,bx.ty,J,false,true⟩) (.r n' i' j')=some bx':=by
          obtain ⟨bv,e3,e4,e5⟩:=xgH az ao k1;have ca:=a8 j' bv;subst ca;have cm:i'≠ix:=fun e=>e2 (by rw [e])
          rw [xeP bc ao ap rfl (by show i'<J.length;omega),e5]
          show some (xIA _ ((J.getD i' .top).cells.getD 1 .top))=_;rw [aw,if_neg cm];have:∀ y:AV,xIA ⟨ver,2,bx.ty,J,false,true⟩ y=xIA bx y:=fun y=>by
           cases y<;>simp [xIA,bl]
          rw [this]
         exact ⟨bx',k3,k2.mono (fun h0=>ad _ m' (fun e=>by cases e) D h0) Q (by rw [ah];exact zd _) (fun _ _ h=>h) k2.guard ac⟩
        | b n' =>
         simp only [Id.base] at ay;subst ay;rw [be] at D;cases D;have hroom':J.length<=maxLen:=by
          unfold xIX at ba;unfold maxLen;omega
         refine ⟨⟨ver,2,bx.ty,J,false,true⟩,bc,cd.symm.trans Y.ver,hsz.symm,Y.ty,Y.capm,by rw [hcap];exact hroom',fun y hy=>?_,Y.low,fun h0=>by rw [ah];exact Y.lt h0,fun h0=>?_,fun _=>⟨fun _=>hA,fun _=>rfl⟩⟩
         . rw [hsz];obtain ⟨k,hk,rfl⟩:=xfq hy;rw [aw];by_cases a9:k=ix
           . rw [if_pos a9];exact xrF rfl
           . rw [if_neg a9,<-hsz];exact Y.ok _ (xaI (ax k hk a9))
         . let c':Array Value:=Array.ofFn (n:=maxLen*2) fun k=>match Z[k.val / 2]? with
            | some x=>if k.val % 2=0 then x.key else x.val
            | none=>undef
           have cr:Z.size<=maxLen:=by rw [r2];exact hroom'
           have bz:∀ (k:Nat) (x:MapEntry),Z[k]?=some x->k<Z.size:=fun k x hx=>by
            rcases zK k Z.size with h|h
            . exact h
            . simp [Array.getElem?_eq_none h] at hx
           have hc':∀ (k:Nat) (x:MapEntry),Z[k]?=some x->c'.getD (k*m.sz) undef=x.key/\c'.getD (k*m.sz+1) undef=x.val:=fun k x hx=>by
            have hk:=bz k x hx;rw [hsz];have e1:k*2<maxLen*2:=by omega
            have e2:k*2+1<maxLen*2:=by omega
            constructor
            . rw [zv,Array.getElem?_ofFn,dif_pos e1];simp only [zi,Nat.mul_div_cancel _ (by omega:0<2),hx,Nat.mul_mod_left,if_true]
            . rw [zv,Array.getElem?_ofFn,dif_pos e2];have d1:(k*2+1) / 2=k:=by omega
              have d2:¬ (k*2+1) % 2=0:=by omega
              simp only [zi,d1,hx,d2,if_false]
           refine ⟨c',?_,by rw [hcap,hsz];exact Array.size_ofFn,fun i' j' a7 cl=>?_⟩
           . unfold HoldsC;rw [b0];exact ⟨Z,q,bi,r2,hcap,hc',fun k x hx=>by obtain ⟨t',a1,_,a3⟩:=r3 k x hx;exact ⟨t',a1,a3⟩,r5⟩
           . have bw:i'<Z.size:=by rw [r2];exact a7
             obtain ⟨x,hx⟩:∃ x,Z[i']?=some x:=⟨Z[i'],by simp [bw]⟩
             rw [hsz] at cl;rcases j' with _|_|j'
             . rw [Nat.add_zero,(hc' i' x hx).1];obtain ⟨t',a1,a2,_⟩:=r3 i' x hx;unfold MV xIw;simp only [bu];rw [a1,a2];exact .str t'
             . rw [(hc' i' x hx).2];unfold MV xIw;simp only [ap];rw [aw];rcases r4 i' x hx with ⟨g1,g2⟩|⟨g1,g2⟩
               . rw [if_neg g1];have h4:=bb i' x g2;unfold MV xIw at h4;simp only [ap] at h4;exact h4.mono Q (by rw [ah];exact zd _) (fun _ _ h=>h) ac
               . rw [if_pos g1,g2];subst g1;obtain ⟨m3,q1,q2,q3,q4⟩:=Rel.osl_inv hv;rw [al] at q1;cases q1;obtain ⟨q5,a,q6,q7⟩:=q4 (by rw [<-a0,V.ver])
                 exact .osl _ (.r n' i' 1) _ _ _ _ am (zd _) q3 fun _=>⟨q5,a,q6,q7⟩
             . omega
 refine ⟨.skip,ChangeMaps.setBlock w m.b (.map ae q),A,M',undef,?_,.inr ⟨rfl,rfl⟩,⟨rfl,rfl,rfl,by rw [ah];exact zd _,fun k hk=>ak k fun e=>by have:=Y.low an;omega⟩,ac,fun _ _=>Iff.rfl,Q,⟨fun b _ hb=>ak b fun e=>hb (.b n) m be an e.symm,fun x m' h h0=>?_⟩,hR',.tuple #[] [] rfl (by simp)⟩
 . rcases ho with ho|ho<;>simp only [execOp,ho,Sem.run_bind,cj,cb,r1,Result.andThen_ok,Sem.run_pure]
 . obtain ⟨y,m0,a1,a2,a3,_⟩:=au x m' h h0;exact .inl ⟨y,m0,a1,by omega,a2.symm⟩
end
def xwK (hR:HR w A M B H) (hB:B<=w.heap.size) {o:Oper} {ρc:Operand->Value} {t:TypeId} {r:AV} {H':List Box} (ho:o.op=.makeMap t none) (h:absMakeM P H t=some (r,H')) :
  Writes P o ρc w A M B r H':=by
 unfold absMakeM at h;split at h
 case h_2=>simp at h
 rename_i kt et af;split at h
 case h_2=>simp at h
 rename_i ty ag ae;split at h
 case isFalse=>simp at h
 rename_i Z;obtain ⟨O,ab⟩:=Z;simp only [z6,zb] at h;obtain ⟨rfl,rfl⟩:=h;have hn:Free M H.length:=hR.free_of_length (zd _);have q:=xe9 w (.map #[] 0);have V:rty ty=ty:=by unfold rty;rw [ab,O]
 let m:MB:=⟨w.heap.size,0,2,maxLen,ty⟩;have J:MExt M (MPut M H.length m):=xlt hn m;have hA:∀ b,b<w.heap.size->(APut A w.heap.size false b->A b):=fun b hb h=>by
  rcases h with h|⟨h,_⟩
  . exact h
  . omega
 have D:MPut M H.length m (.b H.length)=some m:=by simp [MPut]
 have ad:(H++[⟨0,2,ty,[],false,true⟩])[H.length]?=some ⟨0,2,ty,[],false,true⟩:=by simp
 have aa:∀ x:Id,x≠.b H.length->MPut M H.length m x=M x:=fun x hx=>by simp [MPut,hx]
 have hR':HR (w.alloc (.map #[] 0)) (APut A w.heap.size false) (MPut M H.length m) B (H++[⟨0,2,ty,[],false,true⟩]):=by
  refine hR.rebuild (fun k=>k=H.length) (fun k hk Y=>zP Y) (fun x hx=>aa x fun e=>hx (by rw [e];rfl)) (fun x m0 hx h0 c0=>?_) (fun b hb _=>q.block b hb) q.size hA J (fun x m0 hx h0=>?_) (fun x m1 x' m2 hx h1 h2 c1 c2 he=>?_) (fun b hb=>?_)
  . obtain ⟨bx,_,k2⟩:=hR.box x m0 h0;exact ⟨q.block _ (k2.lt c0),.inl⟩
  . cases x with
    | b k =>
     have hx:k=H.length:=hx;subst hx;rw [D] at h0;cases h0;refine ⟨_,ad,rfl,rfl,V,zd _,zR _,fun y hy=>by simp at hy,fun _=>hB,fun _=>by simp [m],fun _=>⟨Array.replicate (maxLen*2) undef,?_,by simp [m],fun i j hi _=>by simp at hi⟩,fun _=>⟨fun _=>.inr ⟨rfl,rfl⟩,fun _=>rfl⟩⟩
     unfold HoldsC;show match xIa ty with|false=>_|true=>_
     rw [O];exact ⟨#[],0,⟨#[],heap_alloc_new w _,.refl _,by simp,by simp⟩,rfl,rfl,fun k x hx=>by simp at hx,fun k x hx=>by simp at hx,fun k l x y hx=>by simp at hx⟩
    | r k i j =>
     have hx:k=H.length:=hx;subst hx;have:MPut M H.length m (.r H.length i j)=M (.r H.length i j):=by simp [MPut]
     rw [this,hn.2] at h0;cases h0
  . have ac:x=.b H.length:=by
     cases x with
     | b k=>have hx:k=H.length:=hx;rw [hx]
     | r k i j =>
      have hx:k=H.length:=hx;subst hx;have:MPut M H.length m (.r H.length i j)=M (.r H.length i j):=by simp [MPut]
      rw [this,hn.2] at h1;cases h1
    subst ac;rw [D] at h1;cases h1;by_cases Q:x'=.b H.length
    . exact Q.symm
    . have h2':M x'=some m2:=by simpa [MPut,Q] using h2
      obtain ⟨bx',_,h3⟩:=hR.box x' m2 h2';have:=h3.lt c2;rw [<-he] at this;simp [m] at this
  . rcases hb with hb|⟨rfl,_⟩
    . have:=hR.lt b hb;simp;omega
    . simp
 refine ⟨.value (.map (some w.heap.size)),w.alloc (.map #[] 0),APut A w.heap.size false,MPut M H.length m,.map (some w.heap.size),?_,.inl rfl,⟨rfl,rfl,rfl,q.size,fun k hk=>q.block k (Nat.lt_of_lt_of_le hk hB)⟩,J,fun b hb=>⟨hA b hb,.inl⟩,fun b hb _=>q.block b hb,Touch.of_new q (fun id m' h=>?_),hR',.own _ (.b H.length) 0 0 0 m D (zd _) rfl fun _=>?_⟩
 . simp [execOp,ho,Instr.makeMap]
 . by_cases W:id=.b H.length
   . subst W;rw [D] at h;cases h;exact .inr (zd _)
   . exact .inl (by simpa [MPut,W] using h)
 . unfold ptrOf;show _=match xIa ty with|true=>_|false=>_
   rw [O];rfl
end
end
section
variable {P : Program} {w : World} {A : Nat -> Prop} {M : Id -> Option MB} {B : Nat} {H : List Box}
def iop (P:Program) (ρ:Operand->AV) (H:List Box) (op:Op):Option (AV×List Box) :=
 match op with
 | .store t a v=>match mkd H (ρ a) with
  | true=>match absAdopt P H t (ρ a) (ρ v) with
   | some H'=>some (.tuple [],H')
   | none=>none
  | false=>match absStore P H t (ρ a) (ρ v) with
   | some H'=>some (.tuple [],H')
   | none=>none
 | .call c=>match c.callee with
  | .builtin b=>match b,c.argTypes.toList,c.args.toList with
   | .append,[t,t'],[s,x]=>match isRowRef (ρ s) with
    | true=>absTake P H t t' (ρ s) (ρ x)
    | false=>match mkd H (ρ s) with
     | true=>absAppC P H t t' (ρ s) (ρ x)
     | false=>xJb P H t t' (ρ s) (ρ x)
   | _,_,_=>none
  | _=>none
 | .lookup t m k c=>match absLookL P H t (ρ m) (ρ k) c with
  | some r=>some (r,H)
  | none=>match absLookM P H t (ρ m) (ρ k) c with
   | some r=>some (r,H)
   | none=>match absLookR P H t (ρ m) (ρ k) c with
    | some r=>some (r,H)
    | none=>none
 | .mapUpdate t m k v=>match absPutM P H t (ρ m) (ρ k) (ρ v) with
  | some H'=>some (.tuple [],H')
  | none=>match absPutR P H t (ρ m) (ρ k) (ρ v) with
   | some H'=>some (.tuple [],H')
   | none=>none
 | .makeMap t r=>match r with
  | none=>absMakeM P H t
  | some _=>none
 | _=>none
def xAW (hR:HR w A M B H) (hB:B<=w.heap.size) {ρ:Operand->AV} {ρc:Operand->Value} {o:Oper} {x:AV} {H':List Box} (hρ:∀ a,Rel w A M (ρc a) (ρ a)) (h:iop P ρ H o.op=some (x,H')):Writes P o ρc w A M B x H':=by
 unfold iop at h;split at h
 . rename_i t a v ho;split at h
   . split at h
     case h_2=>simp at h
     rename_i H2 q;simp only [z6,zb] at h;obtain ⟨rfl,rfl⟩:=h;exact xws hR ho (hρ a) (hρ v) q
   . split at h
     case h_2=>simp at h
     rename_i H2 q;simp only [z6,zb] at h;obtain ⟨rfl,rfl⟩:=h;exact xwY hR ho (hρ a) (hρ v) q
 . rename_i c ho;split at h
   case h_2=>simp at h
   rename_i b D;split at h
   . rename_i t t' s y J O;split at h
     . exact xzN hR hB ho D J O (hρ s) (hρ y) h
     . split at h
       . exact xyX hR hB ho D J O (hρ s) (hρ y) h
       . exact xp1 hR hB ho D J O (hρ s) (hρ y) h
   . simp at h
 . rename_i t m k c ho;split at h
   . rename_i r q;simp only [z6,zb] at h;obtain ⟨rfl,rfl⟩:=h;exact xwI hR ho (hρ m) (hρ k) q
   split at h
   . rename_i r q;simp only [z6,zb] at h;obtain ⟨rfl,rfl⟩:=h;exact xzo hR ho (hρ m) (hρ k) q
   . split at h
     case h_2=>simp at h
     rename_i r q;simp only [z6,zb] at h;obtain ⟨rfl,rfl⟩:=h;exact xwJ hR ho (hρ m) (hρ k) q
 . rename_i t m k v ho;split at h
   . rename_i H2 q;simp only [z6,zb] at h;obtain ⟨rfl,rfl⟩:=h;exact xzv hR (.inl ho) (hρ m) (hρ k) (hρ v) q
   . split at h
     case h_2=>simp at h
     rename_i H2 q;simp only [z6,zb] at h;obtain ⟨rfl,rfl⟩:=h;exact xzy hR (.inl ho) (hρ m) (hρ k) (hρ v) q
 . rename_i t r ho;split at h
   . exact xwK hR hB ho h
   . simp at h
 . simp at h
end
def absAppE (P:Program) (H:List Box) (nid:Nat) (t tt:TypeId) (s x:AV):Option (AV×Option Box) :=
 match s with
 | .empt=>match xH7 P t with
  | some ti=>match ti.d with
   | .slice e=>match xH7 P e with
    | some te=>match absSrc P H t tt e te.sz x with
     | some (ys,pm)=>if 0<te.sz/\ys.length*te.bytes<=140737488355328/\ys.length<=xIX/\te.zero.okElem te.sz=true then some (.osl nid 0 0 ys.length,some ⟨0,te.sz,e,ys,false,pm⟩) else none
     | none=>none
    | none=>none
   | _=>none
  | none=>none
 | _=>none
section
variable {P : Program} {w : World} {A : Nat -> Prop} {M : Id -> Option MB} {B : Nat} {H : List Box} {nid : Nat}
def HR.virtAt (hR:HR w A M B H) (hn:Free M nid) {bx:Box} (hH:H[nid]?=some bx) (hx:bx.xs=[]) (V:isC bx.ty=false) :
  MExt M (MPut M nid ⟨0,bx.ver,bx.sz,0,bx.ty⟩)/\NewId w M (MPut M nid ⟨w.heap.size,bx.ver,bx.sz,0,bx.ty⟩) nid/\HR w A (MPut M nid ⟨w.heap.size,bx.ver,bx.sz,0,bx.ty⟩) B H/\MPut M nid ⟨w.heap.size,bx.ver,bx.sz,0,bx.ty⟩ nid=some ⟨w.heap.size,bx.ver,bx.sz,0,bx.ty⟩/\MExt M (MPut M nid ⟨w.heap.size,bx.ver,bx.sz,0,bx.ty⟩):=by
 have O:MExt M (MPut M nid ⟨w.heap.size,bx.ver,bx.sz,0,bx.ty⟩):=xlt hn _;have J:∀ id m',MPut M nid ⟨w.heap.size,bx.ver,bx.sz,0,bx.ty⟩ id=some m'->0<m'.cap->M id=some m':=fun id m' hm h0=>by
  by_cases q:id=.b nid
  . subst q;simp [MPut] at hm;subst hm;exact absurd h0 (by simp)
  . simpa [MPut,q] using hm
 refine ⟨xlt hn _,⟨fun id q=>by simp [MPut,q],fun m' D=>.inr (by simp [MPut] at D;subst D;exact zd _)⟩,⟨fun id m' D=>?_,fun id id' m1 m2 h1 h2 c1 c2 he=>hR.inj id id' m1 m2 (J id m1 h1 c1) (J id' m2 h2 c2) c1 c2 he,hR.lt⟩,by simp [MPut],O⟩
 by_cases q:id=.b nid
 . subst q;have:m'=⟨w.heap.size,bx.ver,bx.sz,0,bx.ty⟩:=by simp [MPut] at D;exact D.symm
   subst this;have hc:∀ {p:Prop},0<(0:Nat)->p:=fun h=>absurd h (by simp)
   exact ⟨bx,hH,rfl,rfl,xbJ V,zR _,by rw [hx];exact zR _,fun x Q=>by rw [hx] at Q;simp at Q,hc,hc,hc,hc⟩
 . have W:M id=some m':=by simpa [MPut,q] using D
   obtain ⟨bx',g1,g2⟩:=hR.box id m' W;exact ⟨bx',g1,g2.mono (fun _=>rfl) (fun _ _ _=>rfl) (zd _) (fun _ _ h=>h) g2.guard O⟩
def xyY (hR:HR w A M B H) (hB:B<=w.heap.size) (hn:Free M nid) {o:Oper} {ρc:Operand->Value} {c:Call} {t tt:TypeId} {os ox:Operand} {xs xx r:AV} {nb:Option Box} (ho:o.op=.call c) (ag:c.callee=.builtin .append)
  (ax:c.argTypes.toList=[t,tt]) (a1:c.args.toList=[os,ox]) (hs:Rel w A M (ρc os) xs) (hx:Rel w A M (ρc ox) xx) (h:absAppE P H nid t tt xs xx=some (r,nb)) (hH:∀ bx,nb=some bx->∃ f,H[nid]?=some { bx with frz:=f }) :
  Gives P o ρc w A M B H nid r:=by
 unfold absAppE at h;split at h
 case h_2=>simp at h
 split at h
 case h_2=>simp at h
 rename_i ti az;split at h
 case h_2=>simp at h
 rename_i e hd;split at h
 case h_2=>simp at h
 rename_i te V;split at h
 case h_2=>simp at h
 rename_i ys pm aw;split at h
 case isFalse=>simp at h
 rename_i au;obtain ⟨ab,aq,ak,J⟩:=au;simp only [z6,zb] at h;obtain ⟨rfl,rfl⟩:=h;obtain ⟨f,ai⟩:=hH _ rfl;have hu:P.underlying t=some (.slice e):=by rw [xj8 az,hd]
 obtain ⟨i,z,aa,a2,a0,ap,af,an,_⟩:=xa2 V;have ae:isC e=false:=xjk V;have hts':c.argTypes=#[t,tt]:=by apply Array.ext';simpa using ax
 have has':c.args=#[os,ox]:=by apply Array.ext';simpa using a1
 have q:∀ v w',(Builtin.append_ #[t,tt] o.type #[ρc os,ρc ox]).run P w=.ok v w'->(execOp ρc o).run P w=.ok (.value v) w':=by
  intro v w' hv;simp [execOp,ho,resolve,ag,hts',has',invoke,builtin,hv,Go.resolve]
 have O:∃ a,ρc os=.slice a 0 0:=by
  generalize ρc os=v at hs;cases hs with|empt a=>exact ⟨a,rfl⟩
 obtain ⟨a,O⟩:=O;rw [O] at q;rcases xmV hR V ab hu (ty:=o.type) aa hx aw with ⟨rfl,am⟩|⟨a5,al,news,ah,aj,Q⟩
 . obtain ⟨_,g2,g3,g4,g5⟩:=hR.virtAt hn ai rfl ae;exact ⟨.slice a 0 0,w,A,_,q _ _ (am a 0 0 (zd _)),Below.refl _ _,g5,fun _ _=>Iff.rfl,g2,g3,.osl _ (.b nid) 0 0 0 _ g4 (zd _) rfl fun _=>⟨by simp,a,by simp,fun h=>by simp at h⟩⟩
 have a4:ys.length<=4611686018427387904:=ak;have ay:Rel w A M z te.zero:=by rw [an];exact xcZ w A M z
 obtain ⟨a6,_⟩:=ay.cells (xa1 J);have a3:=xaw J;have D:(Builtin.append_ #[t,tt] o.type #[.slice a 0 0,ρc ox]).run P w=.ok (.slice (some ⟨w.heap.size,0,none⟩) ys.length (grownCap w ys.length 0 e)) (w.drew.alloc (.cells (news.toArray++Builtin.zeroCells z.cells (grownCap w ys.length 0 e - ys.length)) e)):=by
  have R:=Q i z aa a0 ap.symm;cases a with
  | none=>exact R.nil (by omega) (by rw [<-af];omega)
  | some b =>
   have:=R.grow b 0 0 [] (by simp) (fun j u hj=>by simp at hj) (by omega) (by omega) (growslice_fits (by omega) (by rw [<-af];simpa using aq))
   simpa using this
 have W:=grownCap_ge w ys.length 0 e;have ad:=grownCap_le_maxLen w ys.length 0 e (by unfold maxLen;omega)
 generalize hcap:grownCap w ys.length 0 e=cap at D W ad;have ac:(Builtin.zeroCells z.cells (cap - ys.length)).size=(cap - ys.length)*te.sz:=by rw [size_zeroCells];congr 1;omega
 have ao:=xmC (bx:=⟨0,te.sz,e,ys,f,pm⟩) (nid:=nid) (c:=news.toArray++Builtin.zeroCells z.cells (cap - ys.length)) (cap:=cap) hR.drew (by simpa using hB) hn ae ai ad
  (by rw [Array.size_append,List.size_toArray,ah,ac,<-Nat.add_mul];congr 1;omega) W al
  (fun i' j Y hj=>by
   have hk:i'*te.sz+j<ys.length*te.sz:=xdP Y hj;have e1:(news.toArray++Builtin.zeroCells z.cells (cap - ys.length)).getD (i'*te.sz+j) undef=news.getD (i'*te.sz+j) undef:=by
    simp only [zv,Array.getElem?_append,List.size_toArray,ah,hk,if_true,List.getElem?_toArray,z7]
   rw [e1];exact (aj _ _ Y hj).grow ⟨rfl,rfl,rfl,zd _,fun _ _=>rfl⟩)
 obtain ⟨s1,s2,s3,s4,s5⟩:=ao;have Z:Below w.heap.size w (w.drew.alloc (.cells (news.toArray++Builtin.zeroCells z.cells (cap - ys.length)) e)):=((Below.refl _ _).drew).alloc (by simp) _
 exact ⟨_,_,_,_,q _ _ D,Z,s1,s2,s3,s4,.osl _ (.b nid) 0 0 ys.length _ s5 (zd _) rfl fun _=>⟨by simpa using W,some ⟨w.heap.size,0,none⟩,by simp,fun _=>by simp⟩⟩
end
def xDw {P:Program} {w:World} {A:Nat->Prop} {M:Id->Option MB} {B:Nat} {H:List Box} {nid:Nat} {o:Oper} {ρc:Operand->Value} {e:TypeId} {v:Value} {x:AV} (hR:HR w A M B H) (hv:Rel w A M v x) (D:x.cells.all AV.one=true) (hp:x.pure=true)
  (O:(execOp ρc o).run P w=.ok (.value (.pointer (some ⟨w.heap.size,0,none⟩))) (w.alloc (.cells v.cells e))):Gives P o ρc w A M B H nid (.eptr x.cells.length [x] 0 0):=by
 obtain ⟨h1,h2⟩:=hv.cells D;have q:=xe9 w (.cells v.cells e);have Q:¬ A w.heap.size:=fun h=>Nat.lt_irrefl _ (hR.lt _ h)
 have:=Rel.eptr (w:=w.alloc (.cells v.cells e)) (A:=A) (M:=M) w.heap.size 0 x.cells.length [x] 0 0 (fun _ j=>v.cells.getD j undef) Q (by simp) (by simp)
  (fun y hy=>by simp only [zw] at hy;subst hy;simp only [AV.okElem,beq_self_eq_true,Bool.true_and];exact D)
  (fun i j hi hj=>by
   have J:i=0:=by simpa using hi
   subst J;have hj':j<v.cells.size:=by rw [h1];exact hj
   have hb:(w.alloc (.cells v.cells e)).heap[w.heap.size]?=some (.cells v.cells e):=heap_alloc_new w _;rw [Nat.zero_mul,zI];unfold World.cell?;simp only [hb];simp [hj'])
  (fun i j hi hj=>by
   have J:i=0:=by simpa using hi
   subst J;exact ((h2 j hj).pure (xe1 (xkR hp) j)).grow q)
 exact ⟨_,w.alloc (.cells v.cells e),A,M,O,q,MExt.refl M,fun _ _=>Iff.rfl,⟨fun _ _=>rfl,fun _ h=>.inl h⟩,hR.grow q,by simpa using this⟩
def fopE (P:Program) (ρ:Operand->AV) (H:List Box) (nid:Nat) (op:Op):Option (AV×Option Box) :=
 match op with
 | .buildSlice t len parts=>match len,parts.toList with
  | 0,[]=>match xH7 P t with
   | some ti=>match ti.d with
    | .slice e=>match xH7 P e with
     | some _=>some (.empt,none)
     | none=>none
    | _=>none
   | none=>none
  | _,_=>none
 | .call c=>match c.callee with
  | .builtin b=>match b,c.argTypes.toList,c.args.toList with
   | .append,[t,t'],[s,x]=>absAppE P H nid t t' (ρ s) (ρ x)
   | _,_,_=>none
  | _=>none
 | .box _ x=>if (ρ x).cells.all AV.one=true/\(ρ x).pure=true then some (.eptr (ρ x).cells.length [ρ x] 0 0,none) else none
 | .lookup t m k c=>match absLookL P H t (ρ m) (ρ k) c with
  | some r=>some (r,none)
  | none=>match absLookR P H t (ρ m) (ρ k) c with
   | some r=>some (r,none)
   | none=>none
 | _=>none
def xCb {P:Program} {ρ:Operand->AV} {H:List Box} {n n':Nat} {op:Op} {x:AV} (h:fopE P ρ H n op=some (x,none)):fopE P ρ H n' op=some (x,none):=by unfold fopE absAppE at *;(repeat' split at h)<;>(try simp_all)<;>grind
def xzf {P:Program} {w:World} {A:Nat->Prop} {M:Id->Option MB} {B:Nat} {H:List Box} {nid:Nat} {ρ:Operand->AV} {ρc:Operand->Value} {o:Oper} {x:AV} {nb:Option Box} (hf:fopE P ρ H nid o.op=some (x,nb)) (hρ:∀ a,a∈o.op.operands.toList->Rel w A M (ρc a) (ρ a))
  (hR:HR w A M B H) (hB:B<=w.heap.size) (hn:Free M nid) (hH:∀ bx,nb=some bx->∃ f,H[nid]?=some { bx with frz:=f }):Gives P o ρc w A M B H nid x:=by
 unfold fopE at hf;split at hf
 . rename_i t len Q ho;split at hf
   case h_2=>simp at hf
   rename_i q;split at hf
   case h_2=>simp at hf
   rename_i ti ac;split at hf
   case h_2=>simp at hf
   rename_i e hd;split at hf
   case h_2=>simp at hf
   rename_i te ab;simp only [z6,zb] at hf;obtain ⟨rfl,rfl⟩:=hf;have ad:Q=#[]:=by apply Array.ext';simpa using q
   subst ad;have aa:P.underlying t=some (.slice e):=by rw [xj8 ac,hd]
   obtain ⟨i,z,Z,ag,af,ah,_⟩:=xa2 ab;have W:(Instr.buildSlice t 0 #[]).run P w=.ok (.slice (some ⟨w.heap.size,0,none⟩) 0 0) (w.alloc (.cells #[] e)):=by
    simp [Instr.buildSlice,run_underlying aa,sizeOf,typeInfo,Z,Go.newRow,zeroValue,af,Instr.fill,show Array.range 0=#[] from rfl]
   have O:=xe9 w (.cells #[] e);refine ⟨.slice (some ⟨w.heap.size,0,none⟩) 0 0,w.alloc (.cells #[] e),A,M,?_,O,MExt.refl M,fun _ _=>Iff.rfl,⟨fun _ _=>rfl,fun _ h=>.inl h⟩,hR.grow O,.empt _⟩
   simp only [execOp,ho,List.map_toArray,zX,Array.map_empty,Sem.run_bind,W,Result.andThen_ok,Sem.run_pure]
 . rename_i c ho;split at hf
   case h_2=>simp at hf
   rename_i b J;split at hf
   . rename_i t t' s y ae V;have D:∀ a,a∈c.args.toList->Rel w A M (ρc a) (ρ a):=fun a ha=>hρ a (by simp [ho,Op.operands,Call.operands,J];simpa using ha)
     exact xyY hR hB hn ho J ae V (D s (by rw [V];simp)) (D y (by rw [V];simp)) hf hH
   . simp at hf
 . rename_i e a ho;split at hf
   case isFalse=>simp at hf
   rename_i hc;obtain ⟨Y,hp⟩:=hc;simp only [z6,zb] at hf;obtain ⟨rfl,rfl⟩:=hf;exact xDw (e:=e) hR (hρ a (by simp [ho,Op.operands])) Y hp (by simp [execOp,ho,Instr.box,newVar,Go.newRow])
 . rename_i t m k c ho;split at hf
   . rename_i r hr;simp only [z6,zb] at hf;obtain ⟨rfl,rfl⟩:=hf;obtain ⟨v,h1,h2⟩:=xt9 hR (hρ m (by simp [ho,Op.operands])) (hρ k (by simp [ho,Op.operands])) hr
     exact .stay hR ⟨v,by simp [execOp,ho,h1],h2⟩
   split at hf
   case h_2=>simp at hf
   rename_i r hr;simp only [z6,zb] at hf;obtain ⟨rfl,rfl⟩:=hf;obtain ⟨v,h1,h2⟩:=xua hR (hρ m (by simp [ho,Op.operands])) (hρ k (by simp [ho,Op.operands])) hr
   exact .stay hR ⟨v,by simp [execOp,ho,h1],h2⟩
 . simp at hf
end Go.Sim
end
