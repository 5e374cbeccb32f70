/- Part 3 of the proof of the law. -/
import Derived.Test.YtoemghmemdnelaaGreatDoorGP2
import Derived.Laws.OwnMore
import Derived.Laws.Append
import Derived.Laws.AppendOwn
import Derived.Lib.AppendStr
import Derived.Tactics
import Derived.LoopN
set_option linter.unusedVariables false
set_option linter.unusedSimpArgs false
set_option linter.unnecessarySimpa false
noncomputable section
namespace Go.Sim
open Go.RowKit
mutual
def AV.flat:AV→Bool
 | .agg cs=>AV.flats cs
 | .list _ _=>false
 | .eptr _ _ _ _=>false
 | .own _ _ _ _=>false
 | .osl _ _ _ _=>false
 | .func _ cs=>AV.flats cs
 | .tuple vs=>AV.flats vs
 | .top=>true
 | .bool _=>true
 | .int _ _=>true
 | .str _=>true
 | .nils=>true
 | .nilptr=>true
 | .nilfn=>true
 | .empt=>true
 | .gptr _=>true
def AV.flats:List AV→Bool
 | []=>true
 | x::xs=>AV.flat x&&AV.flats xs
end
theorem xik:∀ xs:List AV,AV.flats xs=xs.all AV.flat
 | []=>by simp [AV.flats]
 | x::xs=>by simp [AV.flats,xik xs]
theorem xef {xs:List AV} (h:AV.flats xs=true) (i:Nat):(xs.getD i .top).flat=true:=by
 rw [xik,List.all_eq_true] at h
 by_cases hi:i<xs.length
 · simp only [List.getD_eq_getElem?_getD,List.getElem?_eq_getElem hi,Option.getD_some];exact h _ (List.getElem_mem _)
 · simp [List.getD_eq_getElem?_getD,List.getElem?_eq_none (Nat.le_of_not_lt hi),AV.flat]
theorem Rel.flat {w w':World} {A A':Nat→Prop} {M M':Id→Option MB} {v:Value} {x:AV} (h:Rel w A M v x):x.flat=true→Rel w' A' M' v x:=by
 induction h generalizing M' with
 | top v=>intro _;exact .top v
 | bool b=>intro _;exact .bool b
 | int k n=>intro _;exact .int k n
 | str s=>intro _;exact .str s
 | agg vs cs h hr ih=>intro hp;exact .agg vs cs h fun i hi=>ih i hi (xef (by simpa [AV.flat] using hp) i)
 | nils=>intro _;exact .nils
 | list0 a cap sz=>intro _;exact .list0 a cap sz
 | list b off cap sz xs val ha hb hne hcap hsz hc hr ih=>intro hp;simp [AV.flat] at hp
 | eptr b off sz xs i0 j0 val ha hb hi hsz hc hr ih=>intro hp;simp [AV.flat] at hp
 | own v id ver i j m hm hv h1 he=>intro hp;simp [AV.flat] at hp
 | osl v id ver off len m hm hv h1 he=>intro hp;simp [AV.flat] at hp
 | nilptr=>intro _;exact .nilptr
 | func f vs cs h hr ih=>intro hp;exact .func f vs cs h fun i hi=>ih i hi (xef (by simpa [AV.flat] using hp) i)
 | nilfn=>intro _;exact .nilfn
 | empt a=>intro _;exact .empt a
 | tuple vs cs h hr ih=>intro hp;exact .tuple vs cs h fun i hi=>ih i hi (xef (by simpa [AV.flat] using hp) i)
 | gptr g=>intro _;exact .gptr g
def mapO (r:AV→Option AV):List AV→Option (List AV)
 | []=>some []
 | x::xs=>match r x,mapO r xs with
  | some y,some ys=>some (y::ys)
  | _,_=>none
def resE (r:AV→Option AV):AV→Option AV
 | .agg cs=>match mapO r cs with
  | some ds=>some (.agg ds)
  | none=>none
 | x=>r x
def mapE (pm:Bool) (r:AV→Option AV) (xs:List AV):Option (List AV):=if pm=true then some xs else mapO (resE r) xs
def isRow (sz:Nat):AV→Bool
 | .list z _=>Nat.beq z sz
 | _=>false
def rowsAll (sz j:Nat) (seg:List AV):Bool:=seg.all fun x=>isRow sz (x.cells.getD j .top)
def rowsOk (bx:Box) (seg:List AV):Bool:=match isC bx.ty with
 | false=>true
 | true=>bx.pm&&rowsAll (rowSz bx.ty) (slotOf bx.ty) seg
def resolve (H:List Box):Nat→AV→Option AV
 | 0,x=>if x.pure=true then some x else none
 | n+1,x=>if x.pure=true then some x else
  match x with
  | .agg cs=>match mapO (resolve H n) cs with|some ds=>some (.agg ds)|none=>none
  | .func f cs=>match mapO (resolve H n) cs with|some ds=>some (.func f ds)|none=>none
  | .own id ver i j=>match getBox H id ver with
   | some bx=>match mapE bx.pm (resolve H n) bx.xs with
    | some ys=>if i<bx.xs.length∧isC bx.ty=false then some (.eptr bx.sz ys i j) else none
    | none=>none
   | none=>none
  | .osl id ver off len=>match getBox H id ver with
   | some bx=>match mapE bx.pm (resolve H n) ((bx.xs.drop off).take len) with
    | some ys=>if off+len≤bx.xs.length∧rowsOk bx ((bx.xs.drop off).take len)=true then some (.list bx.sz ys) else none
    | none=>none
   | none=>none
  | _=>none
def reach (H:List Box):Nat→AV→List Nat
 | 0,_=>[]
 | n+1,x=>if x.pure=true then [] else
  match x with
  | .agg cs=>cs.flatMap (reach H n)
  | .func _ cs=>cs.flatMap (reach H n)
  | .own id _ _ _=>id.base::(match getB H id with|some bx=>if bx.pm=true then [] else bx.xs.flatMap fun (e:AV)=>e.cells.flatMap (reach H n)|none=>[])
  | .osl id _ off len=>id.base::(match getB H id with|some bx=>if bx.pm=true then [] else ((bx.xs.drop off).take len).flatMap fun (e:AV)=>e.cells.flatMap (reach H n)|none=>[])
  | _=>[]
theorem xad {xs:List AV} {i:Nat} (hi:i<xs.length):xs.getD i .top∈xs:=by
 simp only [List.getD_eq_getElem?_getD,List.getElem?_eq_getElem hi,Option.getD_some];exact List.getElem_mem _
theorem xen {H:List Box} {n:Nat} {x:AV} (h:x.pure=true):reach H n x=[]:=by
 cases n with
 | zero=>rfl
 | succ n=>unfold reach;rw [if_pos h]
theorem xa2 {r:AV→Option AV}:∀ {xs ys:List AV},mapO r xs=some ys→ys.length=xs.length∧∀ i,i<xs.length→r (xs.getD i .top)=some (ys.getD i .top)
 | [],ys,h=>by simp [mapO] at h;subst h;simp
 | x::xs,ys,h=>by
  unfold mapO at h
  split at h
  · rename_i y zs h1 h2
    simp only [Option.some.injEq] at h;subst h
    obtain ⟨e1,e2⟩:=xa2 h2
    refine ⟨by simp [e1],fun i hi=>?_⟩
    cases i with
    | zero=>simpa using h1
    | succ i=>have:=e2 i (by simp at hi;omega);simpa using this
  · simp at h
theorem xkW {r:AV→Option AV} {xs ys:List AV} (h:mapO r xs=some ys) {i:Nat} (hi:i<xs.length):r (xs.getD i .top)=some (ys.getD i .top):=(xa2 h).2 i hi
theorem xjX {H:List Box} {n:Nat} {x y:AV} (h:resE (resolve H n) x=some y) (hx:x.cells.all AV.one=true) :
  y.cells.length=x.cells.length∧∀ j,j<x.cells.length→resolve H n (x.cells.getD j .top)=some (y.cells.getD j .top):=by
 have key:∀ x y:AV,x.cells=[x]→x.one=true→resolve H n x=some y→y.cells.length=x.cells.length∧∀ j,j<x.cells.length→resolve H n (x.cells.getD j .top)=some (y.cells.getD j .top):=by
  intro x y hc h1 hr
  have hy:y.cells=[y]:=by
   cases n with
   | zero =>
    unfold resolve at hr
    split at hr
    · simp only [Option.some.injEq] at hr;subst hr;exact hc
    · simp at hr
   | succ n =>
    unfold resolve at hr
    split at hr
    · simp only [Option.some.injEq] at hr;subst hr;exact hc
    · split at hr<;>first
       | (simp [AV.one] at h1;done)
       | (simp at hr;done)
       | (
        split at hr
        · simp only [Option.some.injEq] at hr;subst hr;rfl
        · simp at hr)
       | (
        split at hr
        · split at hr
          · split at hr
            · simp only [Option.some.injEq] at hr;subst hr;rfl
            · simp at hr
          · simp at hr
        · simp at hr)
  rw [hc,hy]
  refine ⟨rfl,fun j hj=>?_⟩
  have:j=0:=by simpa using hj
  subst this
  exact hr
 cases x with
 | agg cs =>
  simp only [resE] at h
  split at h
  · rename_i ds hds
    simp only [Option.some.injEq] at h;subst h
    exact ⟨(xa2 hds).1,fun j hj=>xkW hds hj⟩
  · simp at h
 | top=>simp [AV.cells,AV.one] at hx
 | tuple vs=>simp [AV.cells,AV.one] at hx
 | _=>exact key _ _ rfl (by simpa [AV.cells] using hx) h
theorem xiZ {H:List Box} {n:Nat} {x y:AV} (h:resolve H n x=some y) (hx:x.one=true):y.one=true:=by
 cases n with
 | zero =>
  unfold resolve at h
  split at h
  · simp only [Option.some.injEq] at h;subst h;exact hx
  · simp at h
 | succ n =>
  unfold resolve at h
  split at h
  · simp only [Option.some.injEq] at h;subst h;exact hx
  · split at h<;>first
     | (simp [AV.one] at hx;done)
     | (simp at h;done)
     | (
      split at h
      · simp only [Option.some.injEq] at h;subst h;rfl
      · simp at h)
     | (
      split at h
      · split at h
        · split at h
          · simp only [Option.some.injEq] at h;subst h;rfl
          · simp at h
        · simp at h
      · simp at h)
theorem xb7 {H:List Box} {n:Nat} {x:AV} (h:x.pure=true):resolve H n x=some x:=by
 cases n<;>simp [resolve,h]
theorem xgu {H:List Box} {n sz:Nat} {pm:Bool} {xs ys:List AV} (h:mapE pm (resolve H n) xs=some ys) (hok:∀ x,x∈xs→x.okElem sz=true) :
  ys.length=xs.length∧(∀ y,y∈ys→y.okElem sz=true)∧(pm=true→ys=xs)∧(¬ pm=true→∀ i j,i<xs.length→j<sz→resolve H n ((xs.getD i .top).cells.getD j .top)=some ((ys.getD i .top).cells.getD j .top)):=by
 unfold mapE at h
 split at h
 · rename_i hp
   simp only [Option.some.injEq] at h;subst h
   exact ⟨rfl,hok,fun _=>rfl,fun h=>absurd hp h⟩
 · rename_i hnp
   obtain ⟨h1,h2⟩:=xa2 h
   have at_:∀ i,i<xs.length→xs.getD i .top∈xs:=fun i hi=>by
    simp only [List.getD_eq_getElem?_getD,List.getElem?_eq_getElem hi,Option.getD_some];exact List.getElem_mem _
   have cell:∀ i,i<xs.length→(ys.getD i .top).cells.length=sz∧∀ j,j<sz→resolve H n ((xs.getD i .top).cells.getD j .top)=some ((ys.getD i .top).cells.getD j .top):=by
    intro i hi
    have hk:=hok _ (at_ i hi)
    obtain ⟨e1,e2⟩:=xjX (h2 i hi) (xag hk)
    have hl:=xab hk
    exact ⟨by omega,fun j hj=>e2 j (by omega)⟩
   refine ⟨h1,fun y hy=>?_,fun h=>absurd h hnp,fun _ i j hi hj=>(cell i hi).2 j hj⟩
   obtain ⟨i,hi,rfl⟩:=List.mem_iff_getElem.1 hy
   have hi':i<xs.length:=by omega
   obtain ⟨c1,c2⟩:=cell i hi'
   have e:ys.getD i .top=ys[i]:=by simp [List.getD_eq_getElem?_getD,hi]
   rw [e] at c1 c2
   simp only [AV.okElem,c1,beq_self_eq_true,Bool.true_and,List.all_eq_true]
   intro c hc
   obtain ⟨j,hj,rfl⟩:=List.mem_iff_getElem.1 hc
   have hk:=xag (hok _ (at_ i hi'))
   have hl:=xab (hok _ (at_ i hi'))
   have hj':j<sz:=by omega
   have h3:=c2 j hj'
   have e3:ys[i].cells.getD j .top=ys[i].cells[j]:=by simp [List.getD_eq_getElem?_getD,hj]
   rw [e3] at h3
   refine xiZ h3 ?_
   rw [List.all_eq_true] at hk
   have hj2:j<(xs.getD i .top).cells.length:=by omega
   exact hk _ (xad hj2)
section
variable {w : World} {A A' : Nat → Prop} {M M' : Id → Option MB} {B : Nat} {H : List Box}
theorem xk4 {n:Nat} {id:Id} {e:AV} {bx:Box} (hb:getB H id=some bx) (hnp:¬ bx.pm=true) (he:e∈bx.xs) {c:AV} (hc:c∈e.cells) {k:Nat} (hk:k∈reach H n c) :
  k∈(match getB H id with|some bx=>if bx.pm=true then [] else bx.xs.flatMap fun (e:AV)=>e.cells.flatMap (reach H n)|none=>[]):=by
 simp only [hb,hnp,if_false]
 exact List.mem_flatMap.2 ⟨e,he,List.mem_flatMap.2 ⟨c,hc,hk⟩⟩
theorem xk5 {n:Nat} {id:Id} {off len:Nat} {e:AV} {bx:Box} (hb:getB H id=some bx) (hnp:¬ bx.pm=true) (he:e∈(bx.xs.drop off).take len) {c:AV} (hc:c∈e.cells) {k:Nat} (hk:k∈reach H n c) :
  k∈(match getB H id with|some bx=>if bx.pm=true then [] else ((bx.xs.drop off).take len).flatMap fun (e:AV)=>e.cells.flatMap (reach H n)|none=>[]):=by
 simp only [hb,hnp,if_false]
 exact List.mem_flatMap.2 ⟨e,he,List.mem_flatMap.2 ⟨c,hc,hk⟩⟩
theorem xcr {xs:List AV} {c:AV} (h:c∈xs):∃ i,i<xs.length∧xs.getD i .top=c:=by
 obtain ⟨i,hi,rfl⟩:=List.mem_iff_getElem.1 h
 exact ⟨i,hi,by simp [List.getD_eq_getElem?_getD,hi]⟩
theorem xbj {H:List Box} {n:Nat} {b:Box} (h:H[n]?=some b):n<H.length:=by
 rcases Nat.lt_or_ge n H.length with h'|h'
 · exact h'
 · rw [List.getElem?_eq_none h'] at h;simp at h
theorem xcv {H H':List Box} {x:Id} (h:H[x.base]?=H'[x.base]?):getB H x=getB H' x:=by
 cases x with
 | b n=>exact h
 | r n i j=>simp only [Id.base] at h;simp only [getB,h]
theorem xdm {H:List Box} {n i j:Nat} {rb:Box} (h:getB H (.r n i j)=some rb):∃ bx:Box,H[n]?=some bx∧(isC bx.ty=false∧rb=tombB∨isC bx.ty=true∧isSlot bx.ty j=true∧bx.pm=true∧i<bx.xs.length∧rb=rowBox bx ((bx.xs.getD i .top).cells.getD j .top)):=by
 simp only [getB] at h
 split at h
 · rename_i bx hb
   split at h
   · rename_i hcc
     split at h
     · rename_i hc
       simp only [Option.some.injEq] at h
       exact ⟨bx,hb,.inr ⟨hcc,hc.1,hc.2.1,hc.2.2,h.symm⟩⟩
     · simp at h
   · rename_i hcc
     simp only [Option.some.injEq] at h
     exact ⟨bx,hb,.inl ⟨hcc,h.symm⟩⟩
 · simp at h
theorem xb9 {H:List Box} {n i j:Nat} {rb bx:Box} (hb:H[n]?=some bx) (hC:isC bx.ty=true) (h:getB H (.r n i j)=some rb):isSlot bx.ty j=true∧bx.pm=true∧i<bx.xs.length∧rb=rowBox bx ((bx.xs.getD i .top).cells.getD j .top):=by
 obtain ⟨bx0,h1,h2⟩:=xdm h
 rw [hb] at h1
 simp only [Option.some.injEq] at h1
 subst h1
 rcases h2 with ⟨h2,_⟩|⟨_,h2⟩
 · rw [hC] at h2;cases h2
 · exact h2
theorem xbw {H:List Box} {n i j:Nat} {bx:Box} (hb:H[n]?=some bx) (hC:isC bx.ty=true) (hs:isSlot bx.ty j=true) (hp:bx.pm=true) (hi:i<bx.xs.length):getB H (.r n i j)=some (rowBox bx ((bx.xs.getD i .top).cells.getD j .top)):=by
 simp only [getB,hb,hC]
 exact if_pos ⟨hs,hp,hi⟩
theorem xbG {H:List Box} {n i j:Nat} {bx:Box} (hb:H[n]?=some bx) (hC:isC bx.ty=false):getB H (.r n i j)=some tombB:=by
 simp only [getB,hb,hC]
theorem xby {t:TypeId} {j:Nat} (h:isSlot t j=true):isC t=true:=by
 cases hc:isC t with
 | true=>rfl
 | false=>rw [xdo hc] at h;cases h
theorem xca {sz:Nat} {x:AV} (h:isRow sz x=true):∃ ys,x=.list sz ys:=by
 cases x<;>first|(simp [isRow] at h;done)|skip
 rename_i z ys
 exact ⟨ys,by rw [Nat.eq_of_beq_eq_true h]⟩
theorem xiy (hR:HR w A M B H) (hA:∀ b,b<w.heap.size→A' b→A b) {n i j sz:Nat} {ys:List AV} {v:Value} {bx:Box} (hb:H[n]?=some bx) (hC:isC bx.ty=true) (hx:(bx.xs.getD i .top).cells.getD j .top=.list sz ys)
  (h:Rel w A M v (rowRef n i j (.list sz ys))) (hid:∀ m,M (.r n i j)=some m→0<m.cap→¬ A' m.b):Rel w A' noBox v (.list sz ys):=by
 obtain ⟨m,hm,hver,h1,he⟩:=Rel.osl_inv h
 obtain ⟨rb,g1,g2⟩:=hR.box _ m hm
 obtain ⟨g4,g5,g6,g7⟩:=xb9 hb hC g1
 rw [hx] at g7
 subst g7
 have hv:2*ys.length=m.ver:=g2.ver
 obtain ⟨e1,a,rfl,e2⟩:=he hv
 have hsz:sz=m.sz:=g2.sz
 subst hsz
 have hpl:isC (rowBox bx (.list m.sz ys)).ty=false:=xaC _
 simp only [rowLen,Nat.sub_zero,Nat.zero_add] at e1 e2 ⊢
 by_cases hz:ys=[]
 · subst hz;exact .list0 _ _ _
 · have hl:0<ys.length:=List.length_pos_iff.2 hz
   have hcap0:0<m.cap:=by omega
   obtain ⟨c,c1,c2,c3⟩:=g2.cells hcap0
   replace c1:=c1.plain (g2.nomap (xak hpl))
   have haa:=e2 hcap0
   subst haa
   rw [Nat.zero_mul]
   refine .list m.b 0 m.cap m.sz ys (fun i j=>c.getD (i*m.sz+j) undef) (hid m hm hcap0) (g2.lt hcap0) hz e1 g2.ok (fun i j hi hj=>?_) (fun i j hi hj=>?_)
   · have hk:i*m.sz+j<c.size:=by rw [c2];exact xaD (by omega) hj
     rw [Nat.zero_add]
     simp [World.cell?,c1,hk]
   · have h4:=c3 i j hi hj
     rw [xai hpl,xau hpl] at h4
     exact h4.mono (fun _ _ _=>rfl) (Nat.le_refl _) hA (MExt.refl _)
theorem xa3 (hR:HR w A M B H) (hA:∀ b,b<w.heap.size→A' b→A b):∀ (n:Nat) (v:Value) (x y:AV),Rel w A M v x→resolve H n x=some y →
  (∀ id:Id,id.base∈reach H n x→∀ m,M id=some m→0<m.cap→¬ A' m.b)→Rel w A' noBox v y
 | 0,v,x,y,hx,h,_=>by
  unfold resolve at h
  split at h
  · rename_i hp
    simp only [Option.some.injEq] at h;subst h
    exact (hx.mono (fun _ _ _=>rfl) (Nat.le_refl _) hA (MExt.refl M)).pure hp
  · simp at h
 | n+1,v,x,y,hx,h,hid=>by
  unfold resolve at h
  unfold reach at hid
  split at h
  · rename_i hp
    simp only [Option.some.injEq] at h;subst h
    exact (hx.mono (fun _ _ _=>rfl) (Nat.le_refl _) hA (MExt.refl M)).pure hp
  rename_i hp
  simp only [hp,if_false] at hid
  split at h
  · rename_i cs
    split at h
    case h_2=>simp at h
    rename_i ds hds
    simp only [Option.some.injEq] at h;subst h
    obtain ⟨vs,rfl,hs,hr⟩:=hx.agg_inv
    obtain ⟨e1,e2⟩:=xa2 hds
    exact .agg vs ds (by omega) fun i hi=>xa3 hR hA n _ _ _ (hr i (by omega)) (e2 i (by omega)) fun k hk m hm=>hid k (List.mem_flatMap.2 ⟨_,xad (by omega),hk⟩) m hm
  · rename_i f cs
    split at h
    case h_2=>simp at h
    rename_i ds hds
    simp only [Option.some.injEq] at h;subst h
    obtain ⟨vs,rfl,hs,hr⟩:=hx.func_inv
    obtain ⟨e1,e2⟩:=xa2 hds
    exact .func f vs ds (by omega) fun i hi=>xa3 hR hA n _ _ _ (hr i (by omega)) (e2 i (by omega)) fun k hk m hm=>hid k (List.mem_flatMap.2 ⟨_,xad (by omega),hk⟩) m hm
  · rename_i id ver i j
    split at h
    case h_2=>simp at h
    rename_i bx hbx
    split at h
    case h_2=>simp at h
    rename_i ys hys
    split at h
    case isFalse=>simp at h
    rename_i hi
    obtain ⟨hi,hpl⟩:=hi
    simp only [Option.some.injEq] at h;subst h
    obtain ⟨m,hm,hbat,rfl⟩:=xcV hR hx hbx
    have hb1:=(xaf hbx).1
    have hcap0:0<m.cap:=by have:=hbat.fits;omega
    obtain ⟨c,h1,h2,h3⟩:=hbat.cells hcap0
    replace h1:=h1.plain (hbat.nomap (xaA hbx))
    obtain ⟨e1,e2,e0,e3⟩:=xgu hys (fun x hx=>hbat.ok x hx)
    have hsz:=hbat.sz
    have hcell:∀ i j,i<bx.xs.length→j<m.sz→w.cell? ⟨m.b,i*m.sz+j,none⟩=some (c.getD (i*m.sz+j) undef):=by
     intro i j hi hj
     have hk:i*m.sz+j<c.size:=by rw [h2];exact xaD (Nat.lt_of_lt_of_le hi hbat.fits) hj
     simp [World.cell?,h1,hk]
    have hna:¬ A' m.b:=hid id (by simp) m hm hcap0
    have:=Rel.eptr (w:=w) (A:=A') (M:=noBox) m.b 0 m.sz ys i j (fun i j=>c.getD (i*m.sz+j) undef) hna (hbat.lt hcap0) (by omega) e2
     (fun i j hi hj=>by rw [Nat.zero_add];exact hcell i j (by omega) hj)
     (fun i j hi hj=>by
      have h4:=h3 i j (by omega) hj
      rw [xai hpl,xau hpl] at h4
      by_cases hpp:bx.pm=true
      · rw [e0 hpp]
        rw [hpp] at h4
        exact h4.mono (fun _ _ _=>rfl) (Nat.le_refl _) hA (MExt.refl _)
      · refine xa3 hR hA n _ _ _ h4.unmp (e3 hpp i j (by omega) hj) fun k hk m' hm'=>?_
        refine hid k (List.mem_cons_of_mem _ (xk4 hb1 hpp (xad (show i<bx.xs.length by omega)) ?_ hk)) m' hm'
        have hl:=xab (hbat.ok _ (xad (show i<bx.xs.length by omega)))
        exact xad (by omega))
    rw [Nat.zero_add] at this
    rw [hsz]
    exact this
  · rename_i id ver off len
    split at h
    case h_2=>simp at h
    rename_i bx hbx
    split at h
    case h_2=>simp at h
    rename_i ys hys
    split at h
    case isFalse=>simp at h
    rename_i hle
    obtain ⟨hle,hpl⟩:=hle
    simp only [Option.some.injEq] at h;subst h
    obtain ⟨m,a,hm,hbat,hfit,rfl,ha⟩:=xb6 hR hx hbx
    have hb1:=(xaf hbx).1
    have hsub:∀ x,x∈(bx.xs.drop off).take len→x∈bx.xs:=fun x hx=>List.mem_of_mem_drop (List.mem_of_mem_take hx)
    obtain ⟨e1,e2,e0,e3⟩:=xgu hys (fun x hx=>hbat.ok x (hsub x hx))
    have hlen:((bx.xs.drop off).take len).length=len:=by simp;omega
    have hg:∀ i,i<len→((bx.xs.drop off).take len).getD i .top=bx.xs.getD (off+i) .top:=fun i hi=>by
     simp [List.getD_eq_getElem?_getD,List.getElem?_take,hi,List.getElem?_drop]
    have hsz:=hbat.sz
    rw [hlen] at e1
    rw [hsz]
    by_cases hz:len=0
    · have:ys=[]:=List.eq_nil_of_length_eq_zero (by omega)
      subst this;subst hz
      exact .list0 _ _ _
    · have haa:=ha (by omega);subst haa
      have hcap0:0<m.cap:=by omega
      obtain ⟨c,h1,h2,h3⟩:=hbat.cells hcap0
      replace h1:=h1.plain (hbat.nomap (xaA hbx))
      have hna:¬ A' m.b:=hid id (by simp) m hm hcap0
      have:=Rel.list (w:=w) (A:=A') (M:=noBox) m.b (off*m.sz) (m.cap - off) m.sz ys (fun i j=>c.getD ((off+i)*m.sz+j) undef) hna (hbat.lt hcap0) (by intro e;subst e;simp at e1;omega) (by omega) e2
       (fun i j hi hj=>by
        have hk:(off+i)*m.sz+j<c.size:=by rw [h2];exact xaD (by omega) hj
        rw [show off*m.sz+i*m.sz+j=(off+i)*m.sz+j by rw [Nat.add_mul]]
        simp [World.cell?,h1,hk])
       (fun i j hi hj=>by
        have h4:=h3 (off+i) j (by omega) hj
        cases hsl:isSlot bx.ty j with
        | true =>
         have hc:=xby hsl
         unfold rowsOk at hpl
         rw [hc] at hpl
         simp only [rowsAll,Bool.and_eq_true,List.all_eq_true] at hpl
         have hj':j=slotOf bx.ty:=by unfold isSlot at hsl;rw [hc] at hsl;exact Nat.eq_of_beq_eq_true hsl
         obtain ⟨zs,hzs⟩:=xca (hpl.2 _ (xad (xs:=(bx.xs.drop off).take len) (i:=i) (by omega)))
         rw [hg i (by omega),←hj'] at hzs
         rw [e0 hpl.1,hg i (by omega),hzs]
         unfold viewC MV at h4
         simp only [hsl] at h4
         rw [hzs] at h4
         cases id with
         | b nn=>exact xiy hR hA hb1 hc hzs h4 fun m' hm' h0=>hid (.r nn (off+i) j) (by simp [Id.base]) m' hm' h0
         | r nn i' j' =>
          obtain ⟨bx0,_,⟨_,rfl⟩|⟨_,_,_,_,rfl⟩⟩:=xdm hb1
          · cases hc
          · rw [xhL,xaC] at hc;cases hc
        | false =>
        have hvc:viewC id.base (off+i) j bx.ty ((bx.xs.getD (off+i) .top).cells.getD j .top)=(bx.xs.getD (off+i) .top).cells.getD j .top:=by unfold viewC;rw [hsl]
        have hmv:MV M bx j=MP M bx.pm:=by unfold MV;rw [hsl]
        rw [hvc,hmv] at h4
        by_cases hpp:bx.pm=true
        · rw [e0 hpp,hg i (by omega)]
          rw [hpp] at h4
          exact h4.mono (fun _ _ _=>rfl) (Nat.le_refl _) hA (MExt.refl _)
        · have h5:=e3 hpp i j (by rw [hlen];omega) hj
          rw [hg i (by omega)] at h5
          refine xa3 hR hA n _ _ _ h4.unmp h5 fun k hk m' hm'=>?_
          have hmem:bx.xs.getD (off+i) .top∈(bx.xs.drop off).take len:=by rw [←hg i (by omega)];exact xad (by omega)
          refine hid k (List.mem_cons_of_mem _ (xk5 hb1 hpp hmem ?_ hk)) m' hm'
          have hl:=xab (hbat.ok _ (xad (show off+i<bx.xs.length by omega)))
          exact xad (by omega))
      rw [e1] at this
      exact this
  · simp at h
end
end Go.Sim
namespace Go.Sim
open Go.RowKit
def absElems (H:List Box) (sz:Nat):AV→Option (List AV×Bool)
 | .nils=>some ([],true)
 | .list sz' xs=>if sz'=sz then some (xs,true) else none
 | .osl id ver off len=>match getBox H id ver with
  | some bx=>if bx.sz=sz∧off+len≤bx.xs.length∧isC bx.ty=false then some ((bx.xs.drop off).take len,bx.pm) else none
  | none=>none
 | _=>none
def putCells (e:AV) (j n sz:Nat) (v:AV):AV:=if j=0∧n=sz then v else .agg (e.cells.take j++v.cells++e.cells.drop (j+n))
def absSrc (P:Program) (H:List Box) (t tt e:TypeId) (sz:Nat) (x:AV):Option (List AV×Bool) :=
 if t=tt then absElems H sz x else
  match tinfo P tt,tinfo P e,x with
  | some tj,some te,.str s=>match tj.d,te.d with
   | .string,.int .u8=>if te.sz=1 then some (s.map fun (u:UInt8)=>.int .u8 u.toNat,true) else none
   | _,_=>none
  | _,_,_=>none
def absApp (H:List Box) (e:TypeId) (te:TI) (s:AV) (ys:List AV) (pm:Bool):Option (AV×List Box) :=
 match s with
 | .nils=>if 0<te.sz∧ys.length*te.bytes≤140737488355328∧ys.length≤strMax∧te.zero.okElem te.sz=true then some (.osl H.length 0 0 ys.length,H++[⟨0,te.sz,e,ys,false,pm⟩]) else none
 | .osl (.b id) ver off len=>match getBox H id ver with
  | some bx=>if off=0∧len=bx.xs.length∧bx.frz=false∧bx.sz=te.sz∧bx.ty=e∧0<te.sz∧(len+ys.length)*te.bytes≤140737488355328∧len+ys.length≤strMax∧te.zero.okElem te.sz=true then
   some (.osl id (ver+1) 0 (len+ys.length),H.set id ⟨ver+1,te.sz,e,bx.xs++ys,false,bx.pm&&pm⟩) else none
  | none=>none
 | _=>none
def absAppend (P:Program) (H:List Box) (t tt:TypeId) (s x:AV):Option (AV×List Box) :=
 match tinfo P t with
 | some ti=>match ti.d with
  | .slice e=>match tinfo P e with
   | some te=>match absSrc P H t tt e te.sz x with
    | some (ys,pm)=>absApp H e te s ys pm
    | none=>none
   | none=>none
  | _=>none
 | none=>none
def absStore (P:Program) (H:List Box) (t:TypeId) (a v:AV):Option (List Box) :=
 match tinfo P t,a with
 | some ti,.own (.b id) ver i j=>match getBox H id ver with
  | some bx=>match bx.xs[i]? with
   | some e=>if bx.frz=false∧v.okElem ti.sz=true∧j+ti.sz≤bx.sz∧isC bx.ty=false then some (H.set id ⟨ver,bx.sz,bx.ty,bx.xs.set i (putCells e j ti.sz bx.sz v),false,bx.pm&&v.pure⟩) else none
   | none=>none
  | none=>none
 | _,_=>none
def absClear (P:Program) (H:List Box) (t:TypeId) (x:AV):Option (List Box) :=
 match tinfo P t with
 | some ti=>match ti.d with
  | .slice e=>match tinfo P e with
   | some te=>match x with
    | .osl (.b id) ver off len=>match getBox H (.b id) ver with
     | some bx=>if bx.frz=false∧bx.sz=te.sz∧off+len≤bx.xs.length∧te.zero.okElem te.sz=true∧te.zero.pure=true∧isC bx.ty=false then
      some (H.set id ⟨ver,bx.sz,bx.ty,bx.xs.take off++(List.replicate len te.zero++bx.xs.drop (off+len)),false,bx.pm⟩) else none
     | none=>none
    | _=>none
   | none=>none
  | _=>none
 | none=>none
theorem xb2 (l:List AV):(AV.agg l).cells=l:=rfl
def splice (l:List Value) (o:Nat) (vs:List Value):List Value:=l.take o++vs++l.drop (o+vs.length)
theorem xbK {l:List Value} {o:Nat} {vs:List Value} (h:o+vs.length≤l.length) (k:Nat) :
  (splice l o vs).getD k undef=if o≤k∧k<o+vs.length then vs.getD (k - o) undef else l.getD k undef:=by
 have h1:min o l.length=o:=by omega
 simp only [splice,List.append_assoc,List.getD_eq_getElem?_getD,List.getElem?_append,List.length_take,h1]
 by_cases hk:k<o
 · simp [hk,List.getElem?_take,show ¬ o≤k by omega]
 · by_cases hk2:k<o+vs.length
   · simp [hk,show k - o<vs.length by omega,hk2,show o≤k by omega]
   · simp only [hk,if_false,show ¬ (k - o<vs.length) by omega,hk2,and_false,List.getElem?_drop]
     congr 2
     omega
theorem xbV {l:List Value} {o:Nat} {vs:List Value} (h:o+vs.length≤l.length):(splice l o vs).length=l.length:=by
 simp [splice];omega
section
variable {P : Program} {w : World} {A : Nat → Prop} {M : Id → Option MB} {B : Nat} {H : List Box}
theorem xbi (l:List Value) (k:Nat):l.toArray.getD k undef=l.getD k undef:=by simp [List.getD_eq_getElem?_getD,Array.getD_eq_getD_getElem?]
theorem xas (c:Array Value) (k:Nat):c.toList.getD k undef=c.getD k undef:=by simp [List.getD_eq_getElem?_getD,Array.getD_eq_getD_getElem?]
def MSet (M:Id→Option MB) (id:Id) (m:MB):Id→Option MB:=fun i=>if i=id then some m else M i
theorem xej {id:Id} {m m':MB} (hm:M id=some m) (h:m'=m∨m.ver<m'.ver):MExt M (MSet M id m'):=fun i m1 h1=>by
 by_cases hi:i=id
 · subst hi
   rw [hm] at h1
   simp only [Option.some.injEq] at h1
   subst h1
   exact ⟨m',by simp [MSet],h⟩
 · exact ⟨m1,by simp [MSet,hi,h1],.inl rfl⟩
def Touch (w w':World) (M M':Id→Option MB):Prop :=
 (∀ b,b<w.heap.size→(∀ id m,M id=some m→0<m.cap→m.b≠b)→w'.heap[b]?=w.heap[b]?) ∧
 ∀ id m',M' id=some m'→0<m'.cap→(∃ i m,M i=some m∧0<m.cap∧m'.b=m.b)∨w.heap.size≤m'.b
theorem Touch.of_new {w w':World} {M M':Id→Option MB} (hb:Below w.heap.size w w') (h:∀ id m,M' id=some m→M id=some m∨w.heap.size≤m.b):Touch w w' M M' :=
 ⟨fun b h _=>hb.block b h,fun id m' hm h0=>(h id m' hm).imp (fun h=>⟨id,m',h,h0,rfl⟩) (fun h=>h)⟩
theorem xaK (H:List Box) (n:Nat):getB H (.b n)=H[n]?:=rfl
theorem xcH {id:Id} {bx:Box} (hb:getB H id=some bx):id.base<H.length:=by
 cases id with
 | b n=>rw [xaK] at hb;exact xbj hb
 | r n i j =>
  obtain ⟨bx0,h,_⟩:=xdm hb
  exact xbj h
theorem xfA {id:Id} {bx:Box} {l:List Box} (hb:getB H id=some bx):getB (H++l) id=some bx:=by
 rw [←hb]
 exact xcv (List.getElem?_append_left (xcH hb))
theorem xiR {n:Nat} {j:Id} {bx':Box} (h:j.base≠n):getB (H.set n bx') j=getB H j :=
 xcv (by rw [List.getElem?_set_ne (Ne.symm h)])
theorem xbs {n:Nat} {bx bx':Box} (hb:H[n]?=some bx) (hpl:isC bx.ty=false) (hpl':isC bx'.ty=false) {j:Id} (hne:j≠.b n):getB (H.set n bx') j=getB H j:=by
 by_cases hj:j.base=n
 · cases j with
   | b k=>exact absurd (by rw [←hj];rfl) hne
   | r k i l =>
    simp only [Id.base] at hj
    subst hj
    rw [xbG hb hpl,xbG (List.getElem?_set_self (xbj hb)) hpl']
 · exact xiR hj
theorem xcF (hR:HR w A M B H) {id:Nat} {m m':MB} {bx bx':Box} (hcap0:0<m.cap) (hm:M (.b id)=some m) (hb:H[id]?=some bx) (hbat:BoxAt w A M B (.b id) m bx) (hpl:isC bx.ty=false) (hpl':isC bx'.ty=false) (hfz:bx.frz=false) {c':Array Value}
  (e1:m'.b=m.b) (e2:m'.cap=m.cap) (e3:m'.sz=m.sz) (e4:m'.ty=m.ty) (e5:m'=m∨m.ver<m'.ver) (f1:bx'.ver=m'.ver) (f2:bx'.sz=m'.sz) (f3:bx'.ty=m'.ty) (f4:bx'.frz=false)
  (hfit:bx'.xs.length≤m.cap) (hok:∀ x,x∈bx'.xs→x.okElem m.sz=true) (hsz:c'.size=m.cap*m.sz)
  (hc:∀ i j,i<bx'.xs.length→j<m.sz→Rel w A (MP M bx'.pm) (c'.getD (i*m.sz+j) undef) ((bx'.xs.getD i .top).cells.getD j .top)) :
  HR (w.setRow m.b c') A (MSet M (.b id) m') B (H.set id bx')∧MExt M (MSet M (.b id) m')∧(∀ b,b<w.heap.size→¬ A b→(w.setRow m.b c').heap[b]?=w.heap[b]?)∧Below B w (w.setRow m.b c')∧Touch w (w.setRow m.b c') M (MSet M (.b id) m')∧A m.b:=by
 have hAm:A m.b:=(hbat.guard hcap0).1 hfz
 have hext:MExt M (MSet M (.b id) m'):=xej hm e5
 have hs:(w.setRow m.b c').heap.size=w.heap.size:=by simp [World.setRow]
 have hw:∀ b,b<w.heap.size→¬ A b→(w.setRow m.b c').heap[b]?=w.heap[b]?:=fun b _ hb=>setRow_other w m.b b c' fun e=>hb (e▸hAm)
 obtain ⟨c,h1,h2,h3⟩:=hbat.cells hcap0
 have hnm:isMapT m.ty=false:=hbat.nomap (xak hpl)
 replace h1:=h1.plain hnm
 refine ⟨⟨?_,?_,fun b hb=>by rw [hs];exact hR.lt b hb⟩,hext,hw,⟨rfl,rfl,rfl,by rw [hs];exact Nat.le_refl _,fun k hk=>setRow_other w m.b k c' fun e=>by have:=hbat.low hcap0;omega⟩,⟨fun b _ hb=>setRow_other w m.b b c' fun e=>hb (.b id) m hm hcap0 e.symm,fun i m1 h1' _=>?_⟩,hAm⟩
 · intro i m1 h1'
   by_cases hi:i=.b id
   · subst hi
     have:m1=m':=by simp [MSet] at h1';exact h1'.symm
     subst this
     refine ⟨bx',by rw [xaK,List.getElem?_set_self (xbj hb)],⟨f1,f2,by rw [xal hpl'];exact f3,by rw [e2];exact hbat.capm,by rw [e2];exact hfit,by rw [e3];exact hok,fun _=>by rw [e1];exact hbat.low hcap0,fun _=>by rw [e1,hs];exact hbat.lt hcap0,fun _=>⟨c',.of (by rw [e4];exact hnm) (by rw [e1,e4];exact setRow_heap w m.b c c' m.ty (0,0) h1),by rw [e2,e3];exact hsz,?_⟩,fun _=>⟨fun _=>by rw [e1];exact hAm,fun _=>f4⟩⟩⟩
     intro i j hi hj
     rw [e3] at hj ⊢
     rw [xai hpl',xau hpl']
     exact (hc i j hi hj).mono hw (by rw [hs];exact Nat.le_refl _) (fun b _ h=>h) (xfk hext _)
   · have hm2:M i=some m1:=by simpa [MSet,hi] using h1'
     obtain ⟨bx2,g1,g2⟩:=hR.box i m1 hm2
     have hne:0<m1.cap→m1.b≠m.b:=fun h0 e=>hi (hR.inj i (.b id) m1 m hm2 hm h0 hcap0 e)
     exact ⟨bx2,by rw [xbs hb hpl hpl' hi];exact g1,g2.mono (fun h0=>setRow_other w m.b m1.b c' (hne h0)) hw (by rw [hs];exact Nat.le_refl _) (fun b _ h=>h) g2.guard hext⟩
 · intro i i' m1 m2 h1' h2' c1 c2 he
   by_cases hi:i=.b id<;>by_cases hi':i'=.b id
   · rw [hi,hi']
   · have g1:m1=m':=by simp [MSet,hi] at h1';exact h1'.symm
     have g2:M i'=some m2:=by simpa [MSet,hi'] using h2'
     rw [hi]
     exact hR.inj (.b id) i' m m2 hm g2 hcap0 c2 (by rw [←he,g1,e1])
   · have g1:m2=m':=by simp [MSet,hi'] at h2';exact h2'.symm
     have g2:M i=some m1:=by simpa [MSet,hi] using h1'
     rw [hi']
     exact hR.inj i (.b id) m1 m g2 hm c1 hcap0 (by rw [he,g1,e1])
   · exact hR.inj i i' m1 m2 (by simpa [MSet,hi] using h1') (by simpa [MSet,hi'] using h2') c1 c2 he
 · by_cases hi:i=.b id
   · have g1:m1=m':=by simp [MSet,hi] at h1';exact h1'.symm
     exact .inl ⟨.b id,m,hm,hcap0,by rw [g1,e1]⟩
   · rename_i h0
     exact .inl ⟨i,m1,by simpa [MSet,hi] using h1',h0,rfl⟩
theorem xkJ (hR:HR w A M B H) {id:Nat} {m m':MB} {bx bx':Box} (hcap0:m.cap=0) (hm:M (.b id)=some m) (hb:H[id]?=some bx) (hpl:isC bx.ty=false) (hpl':isC bx'.ty=false)
  (e2:m'.cap=m.cap) (e3:m'.sz=m.sz) (e5:m'=m∨m.ver<m'.ver) (f1:bx'.ver=m'.ver) (f2:bx'.sz=m'.sz) (f3:bx'.ty=m'.ty) (f5:bx'.xs=[]) :
  HR w A (MSet M (.b id) m') B (H.set id bx')∧MExt M (MSet M (.b id) m')∧Touch w w M (MSet M (.b id) m'):=by
 have hext:MExt M (MSet M (.b id) m'):=xej hm e5
 have hc:∀ {p:Prop},0<m'.cap→p:=fun h=>absurd h (by omega)
 refine ⟨⟨?_,?_,hR.lt⟩,hext,⟨fun _ _ _=>rfl,fun i m1 h1' h0=>?_⟩⟩
 · intro i m1 h1'
   by_cases hi:i=.b id
   · subst hi
     have:m1=m':=by simp [MSet] at h1';exact h1'.symm
     subst this
     exact ⟨bx',by rw [xaK,List.getElem?_set_self (xbj hb)],⟨f1,f2,by rw [xal hpl'];exact f3,by rw [e2,hcap0];exact Nat.zero_le _,by rw [f5];exact Nat.zero_le _,by rw [f5];simp,hc,hc,hc,hc⟩⟩
   · have hm2:M i=some m1:=by simpa [MSet,hi] using h1'
     obtain ⟨bx2,g1,g2⟩:=hR.box i m1 hm2
     exact ⟨bx2,by rw [xbs hb hpl hpl' hi];exact g1,g2.mono (fun _=>rfl) (fun _ _ _=>rfl) (Nat.le_refl _) (fun b _ h=>h) g2.guard hext⟩
 · intro i i' m1 m2 h1' h2' c1 c2 he
   by_cases hi:i=.b id
   · have g1:m1=m':=by simp [MSet,hi] at h1';exact h1'.symm
     rw [g1] at c1;exact hc c1
   · by_cases hi':i'=.b id
     · have g1:m2=m':=by simp [MSet,hi'] at h2';exact h2'.symm
       rw [g1] at c2;exact hc c2
     · exact hR.inj i i' m1 m2 (by simpa [MSet,hi] using h1') (by simpa [MSet,hi'] using h2') c1 c2 he
 · by_cases hi:i=.b id
   · have g1:m1=m':=by simp [MSet,hi] at h1';exact h1'.symm
     rw [g1] at h0;exact hc h0
   · exact .inl ⟨i,m1,by simpa [MSet,hi] using h1',h0,rfl⟩
def Writes (P:Program) (o:Oper) (ρc:Operand→Value) (w:World) (A:Nat→Prop) (M:Id→Option MB) (B:Nat) (x:AV) (H':List Box):Prop :=
 ∃ n w' A' M' v,(execOp ρc o).run P w=.ok n w'∧((n=.value v)∨(n=.skip∧v=undef))∧Below B w w'∧MExt M M'∧(∀ b,b<w.heap.size→(A' b↔A b))∧(∀ b,b<w.heap.size→¬ A b→w'.heap[b]?=w.heap[b]?)∧Touch w w' M M'∧HR w' A' M' B H'∧Rel w' A' M' v x
theorem xkL {v:Value} {x:AV} (h:Rel w A M v x) (hx:x.cells.all AV.one=true):∀ u,u∈v.cells.toList→u.oneCell'=true:=by
 intro u hu
 obtain ⟨h1,h2⟩:=h.cells hx
 obtain ⟨i,hi,rfl⟩:=List.mem_iff_getElem.1 hu
 have hi':i<x.cells.length:=by simp at hi;omega
 have:=h2 i hi'
 have e:v.cells.getD i undef=v.cells.toList[i]:=by simp at hi;simp [hi]
 rw [e] at this
 refine this.oneCell ?_
 rw [List.all_eq_true] at hx
 exact hx _ (xad hi')
theorem xi3 (hR:HR w A M B H) {o:Oper} {ρc:Operand→Value} {t:TypeId} {oa ov:Operand} {xa xv:AV} {H':List Box} (ho:o.op=.store t oa ov) (ha:Rel w A M (ρc oa) xa) (hv:Rel w A M (ρc ov) xv) (h:absStore P H t xa xv=some H') :
  Writes P o ρc w A M B (.tuple []) H':=by
 unfold absStore at h
 split at h
 case h_2=>simp at h
 rename_i ti id ver i j hti
 split at h
 case h_2=>simp at h
 rename_i bx hbx
 split at h
 case h_2=>simp at h
 rename_i e he
 split at h
 case isFalse=>simp at h
 rename_i hc0
 obtain ⟨hfz,hok,hle,hpl⟩:=hc0
 simp only [Option.some.injEq] at h;subst h
 obtain ⟨m,hm,hbat,hpa⟩:=xcV hR ha hbx
 obtain ⟨hb1,hb2⟩:=xaf hbx
 have hcap0:0<m.cap:=by
  have:=hbat.fits
  have:0<bx.xs.length:=List.length_pos_of_mem (List.mem_of_getElem? he)
  omega
 obtain ⟨c,h1,h2,h3⟩:=hbat.cells hcap0
 replace h1:=h1.plain (hbat.nomap (xak hpl))
 replace h3:∀ i j,i<bx.xs.length→j<m.sz→Rel w A (MP M bx.pm) (c.getD (i*m.sz+j) undef) ((bx.xs.getD i .top).cells.getD j .top):=fun i j hi hj=>by
  have:=h3 i j hi hj
  rw [xai hpl,xau hpl] at this;exact this
 have hty':bx.ty=m.ty:=by rw [←hbat.ty,xal hpl]
 have hvl:=xab hok
 have hone:=xag hok
 have hcu:=xf1 hv hone
 have hvs:(ρc ov).cells.size=ti.sz:=by have:=hcu.1;simp at this;omega
 have hi:i<bx.xs.length:=by
  rcases Nat.lt_or_ge i bx.xs.length with h'|h'
  · exact h'
  · simp [List.getElem?_eq_none h'] at he
 have hge:bx.xs.getD i .top=e:=by simp [List.getD_eq_getElem?_getD,he]
 have hel:=xab (hbat.ok e (List.mem_of_getElem? he))
 have hsz:=hbat.sz
 have hfitI:i*m.sz+m.sz≤c.size:=by
  rw [h2]
  have:(i+1)*m.sz≤m.cap*m.sz:=Nat.mul_le_mul_right _ (Nat.le_trans hi hbat.fits)
  rw [Nat.add_mul,Nat.one_mul] at this
  exact this
 have hoff:i*m.sz+j+(ρc ov).cells.toList.length≤c.toList.length:=by simp;omega
 have hput:(putCells e j ti.sz bx.sz xv).cells.length=m.sz∧(∀ k,k<m.sz→(putCells e j ti.sz bx.sz xv).cells.getD k .top=if j≤k∧k<j+ti.sz then xv.cells.getD (k - j) .top else e.cells.getD k .top)∧(putCells e j ti.sz bx.sz xv).cells.all AV.one=true:=by
  unfold putCells
  split
  · rename_i hw
    obtain ⟨rfl,hw⟩:=hw
    exact ⟨by omega,fun k hk=>by rw [if_pos (by omega)];simp,hone⟩
  · have hmin:min j e.cells.length=j:=by omega
    refine ⟨by rw [xb2];simp;omega,fun k hk=>?_,?_⟩
    · simp only [xb2,List.append_assoc,List.getD_eq_getElem?_getD,List.getElem?_append,List.length_take,hmin]
      by_cases hk1:k<j
      · simp [hk1,List.getElem?_take,show ¬ j≤k by omega]
      · by_cases hk2:k<j+ti.sz
        · simp [hk1,hvl,show k - j<ti.sz by omega,hk2,show j≤k by omega]
        · simp only [hk1,if_false,hvl,show ¬ (k - j<ti.sz) by omega,hk2,and_false,List.getElem?_drop]
          congr 2
          omega
    · have h5:=xag (hbat.ok e (List.mem_of_getElem? he))
      rw [List.all_eq_true] at h5 hone
      simp only [xb2,List.all_append,Bool.and_eq_true,List.all_eq_true]
      exact ⟨⟨fun x hx=>h5 x (List.mem_of_mem_take hx),hone⟩,fun x hx=>h5 x (List.mem_of_mem_drop hx)⟩
 have hst:=run_storeCells_at P m.b (i*m.sz+j) m.ty (ρc ov).cells.toList 0 c w h1 (by simp;omega) (xkL hv hone)
 simp only [Nat.add_zero] at hst
 obtain ⟨g1,g2,g3,g4,gt,g5⟩:=xcF (m':=m) (bx':=⟨ver,bx.sz,bx.ty,bx.xs.set i (putCells e j ti.sz bx.sz xv),false,bx.pm&&xv.pure⟩) hR hcap0 hm hb1 hbat hpl hpl hfz (c':=(splice c.toList (i*m.sz+j) (ρc ov).cells.toList).toArray) rfl rfl rfl rfl (.inl rfl)
  (by rw [←hbat.ver,←hb2]) hsz hty' rfl (by simpa using hbat.fits)
  (fun x hx=>by
   rcases List.mem_or_eq_of_mem_set hx with hx|rfl
   · exact hbat.ok x hx
   · simp only [AV.okElem,hput.1,beq_self_eq_true,Bool.true_and];exact hput.2.2)
  (by have:=xbV hoff;simp at this ⊢;omega)
  (fun i' j' hi' hj'=>by
   simp at hi'
   rw [xbi,xbK hoff]
   have hsv:(ρc ov).cells.toList.length=ti.sz:=by simpa using hvs
   by_cases hii:i'=i
   · subst hii
     have e1:(bx.xs.set i' (putCells e j ti.sz bx.sz xv)).getD i' .top=putCells e j ti.sz bx.sz xv:=by simp [List.getD_eq_getElem?_getD,hi']
     rw [e1,hput.2.1 j' hj',hsv]
     by_cases hin:j≤j'∧j'<j+ti.sz
     · rw [if_pos (by omega),if_pos hin,show i'*m.sz+j' - (i'*m.sz+j)=j' - j by omega]
       exact (hcu.2 _ (by omega)).mp fun hp=>xbp (xcB (Bool.and_eq_true _ _▸hp).2) _
     · rw [if_neg (by omega),if_neg hin,xas]
       have:=h3 i' j' hi' hj'
       rw [hge] at this
       exact this.mp_and
   · have e1:(bx.xs.set i (putCells e j ti.sz bx.sz xv)).getD i' .top=bx.xs.getD i' .top:=by simp [List.getD_eq_getElem?_getD,List.getElem?_set,show ¬ i=i' from fun h=>hii h.symm]
     rw [e1,hsv,if_neg,xas]
     · exact (h3 i' j' hi' hj').mp_and
     · intro hin
       rcases Nat.lt_or_ge i' i with hlt|hge'
       · have:i'*m.sz+j'<i*m.sz:=xaD hlt hj'
         omega
       · have h6:(i+1)*m.sz≤i'*m.sz:=Nat.mul_le_mul_right _ (by omega)
         rw [Nat.add_mul,Nat.one_mul] at h6
         omega)
 refine ⟨.skip,_,A,_,undef,?_,.inr ⟨rfl,rfl⟩,g4,g2,fun _ _=>Iff.rfl,g3,gt,g1,.tuple #[] [] rfl (by simp)⟩
 simp only [execOp,ho,hpa,Instr.storeAt,Instr.sureAddr,storeVar,Sem.run_bind,Sem.run_pure,Result.andThen_ok,xaX hti,hvs,ne_eq,not_true,if_false]
 rw [hst]
 rfl
end
end Go.Sim
namespace Go.Sim
open Go.RowKit
section
variable {P : Program} {w : World} {A : Nat → Prop} {M : Id → Option MB} {B : Nat} {H : List Box}
theorem xgU (hR:HR w A M B H) {sz:Nat} {v:Value} {x:AV} {ys:List AV} {pm:Bool} (hx:Rel w A M v x) (h:absElems H sz x=some (ys,pm)) :
  (ys=[]∧∃ a c,v=.slice a 0 c)∨∃ b o c,v=.slice (some ⟨b,o,none⟩) ys.length c∧(∀ y,y∈ys→y.okElem sz=true) ∧
   ∀ i j,i<ys.length→j<sz→∃ u,w.cell? ⟨b,o+(i*sz+j),none⟩=some u∧Rel w A (MP M pm) u ((ys.getD i .top).cells.getD j .top):=by
 unfold absElems at h
 split at h
 · simp only [Option.some.injEq,Prod.mk.injEq] at h;obtain ⟨rfl,rfl⟩:=h
   cases hx
   exact .inl ⟨rfl,none,0,rfl⟩
 · split at h
   case isFalse=>simp at h
   rename_i hs
   subst hs
   simp only [Option.some.injEq,Prod.mk.injEq] at h;obtain ⟨rfl,rfl⟩:=h
   cases hx with
   | list0 a cap _=>exact .inl ⟨rfl,a,cap,rfl⟩
   | list b off cap _ _ val ha hb hne hcap hsz hc hr =>
    exact .inr ⟨b,off,cap,rfl,hsz,fun i j hi hj=>⟨val i j,by rw [←Nat.add_assoc];exact hc i j hi hj,hr i j hi hj⟩⟩
 · rename_i id ver off len
   split at h
   case h_2=>simp at h
   rename_i bx hbx
   split at h
   case isFalse=>simp at h
   rename_i hc0
   obtain ⟨hsz,hle,hpl⟩:=hc0
   simp only [Option.some.injEq,Prod.mk.injEq] at h;obtain ⟨rfl,rfl⟩:=h
   obtain ⟨m,a,hm,hbat,hfit,rfl,ha⟩:=xb6 hR hx hbx
   have hsm:m.sz=sz:=by rw [←hbat.sz,hsz]
   have hlen:((bx.xs.drop off).take len).length=len:=by simp;omega
   by_cases hz:len=0
   · subst hz
     exact .inl ⟨by simp,a,_,rfl⟩
   · have haa:=ha (by omega);subst haa
     refine .inr ⟨m.b,off*m.sz,m.cap - off,by rw [hlen],fun y hy=>by rw [←hsm];exact hbat.ok y (List.mem_of_mem_drop (List.mem_of_mem_take hy)),fun i j hi hj=>?_⟩
     rw [hlen] at hi
     rw [←hsm] at hj ⊢
     have:=hbat.cell' (hbat.nomap (xak hpl)) (show off+i<bx.xs.length by omega) hj
     rw [xai hpl,xau hpl] at this
     rw [Nat.add_mul,Nat.add_assoc] at this
     have hg:((bx.xs.drop off).take len).getD i .top=bx.xs.getD (off+i) .top:=by
      simp [List.getD_eq_getElem?_getD,List.getElem?_take,hi,List.getElem?_drop]
     rwa [hg]
 · simp at h
theorem xdK {t ty e:TypeId} {i:TypeInfo} (ht:P.underlying t=some (.slice e)) (hi:P.info? e=some i) (b:Option Addr) (len cap:Nat) (hle:len≤cap) (a:Option Addr) (c:Nat) :
  (Builtin.append_ #[t,t] ty #[.slice b len cap,.slice a 0 c]).run P w=.ok (.slice b len cap) w:=by
 cases a<;>cases b<;>simp [Builtin.append_,run_underlying ht,sizeOf,typeInfo,hi,Builtin.lenOf,Builtin.firstCells,loadCells,loadCellsFrom,hle,storeCells]
def srcCells (w:World) (b o n:Nat):List Value:=(List.range n).map fun k=>(w.cell? ⟨b,o+k,none⟩).getD undef
theorem xbB (w:World) (b o n:Nat):(srcCells w b o n).length=n:=by simp [srcCells]
theorem xh2 {b o n k:Nat} (hk:k<n):(srcCells w b o n).getD k undef=(w.cell? ⟨b,o+k,none⟩).getD undef:=by
 simp [srcCells,List.getD_eq_getElem?_getD,hk]
theorem xhm {k n sz:Nat} (hk:k<n*sz):k / sz<n:=Nat.div_lt_of_lt_mul (by rwa [Nat.mul_comm])
section src
variable {ys : List AV} {sz b o : Nat} (hsz : 0 < sz) (hs : ∀ i j, i < ys.length → j < sz → ∃ u, w.cell? ⟨b, o + (i * sz + j), none⟩ = some u ∧ Rel w A M u ((ys.getD i .top).cells.getD j .top))
include hsz hs
theorem xiB {k:Nat} (hk:k<ys.length*sz):∃ u,w.cell? ⟨b,o+k,none⟩=some u∧Rel w A M u ((ys.getD (k / sz) .top).cells.getD (k % sz) .top):=by
 have:=hs (k / sz) (k % sz) (xhm hk) (Nat.mod_lt _ hsz)
 rwa [Nat.mul_comm,Nat.div_add_mod] at this
theorem xer (j:Nat) (u:Value) (h:(srcCells w b o (ys.length*sz))[j]?=some u):w.cell? ((⟨b,o,none⟩:Addr).add j)=some u:=by
 have hj:j<ys.length*sz:=by
  rcases Nat.lt_or_ge j (ys.length*sz) with h'|h'
  · exact h'
  · rw [List.getElem?_eq_none (by rw [xbB];exact h')] at h;simp at h
 obtain ⟨u',hu,_⟩:=xiB hsz hs hj
 rw [xbv,hu]
 simp [srcCells,hj,hu] at h
 rw [h]
omit hsz in
theorem xjn {i j:Nat} (hi:i<ys.length) (hj:j<sz):Rel w A M ((srcCells w b o (ys.length*sz)).getD (i*sz+j) undef) ((ys.getD i .top).cells.getD j .top):=by
 obtain ⟨u,hu,hr⟩:=hs i j hi hj
 rw [xh2 (xaD hi hj),hu]
 exact hr
theorem xjm (hok:∀ y,y∈ys→y.okElem sz=true):∀ u,u∈srcCells w b o (ys.length*sz)→u.oneCell'=true:=by
 intro u hu
 obtain ⟨k,hk,rfl⟩:=List.mem_iff_getElem.1 hu
 have hk':k<ys.length*sz:=by rwa [xbB] at hk
 obtain ⟨u',hu',hr⟩:=xiB hsz hs hk'
 have e:(srcCells w b o (ys.length*sz))[k]=u':=by simp [srcCells,hu']
 rw [e]
 have hi:=xhm hk'
 have h1:=xag (hok _ (xad hi))
 have hl:=xab (hok _ (xad hi))
 rw [List.all_eq_true] at h1
 exact hr.oneCell (h1 _ (xad (by rw [hl];exact Nat.mod_lt _ hsz)))
end src
theorem xgg {xs ys:List AV} {c:List Value} {sz:Nat} {news:List Value} (hn:news.length=ys.length*sz)
  (hold:∀ i j,i<xs.length→j<sz→Rel w A M (c.getD (i*sz+j) undef) ((xs.getD i .top).cells.getD j .top))
  (hnew:∀ i j,i<ys.length→j<sz→Rel w A M (news.getD (i*sz+j) undef) ((ys.getD i .top).cells.getD j .top))
  {c':List Value} (h1:∀ k,k<xs.length*sz→c'.getD k undef=c.getD k undef) (h2:∀ k,k<ys.length*sz→c'.getD (xs.length*sz+k) undef=news.getD k undef) :
  ∀ i j,i<(xs++ys).length→j<sz→Rel w A M (c'.getD (i*sz+j) undef) (((xs++ys).getD i .top).cells.getD j .top):=by
 intro i j hi hj
 by_cases hix:i<xs.length
 · have e:(xs++ys).getD i .top=xs.getD i .top:=by simp [List.getD_eq_getElem?_getD,List.getElem?_append,hix]
   rw [e,h1 _ (xaD hix hj)]
   exact hold i j hix hj
 · have e:(xs++ys).getD i .top=ys.getD (i - xs.length) .top:=by simp [List.getD_eq_getElem?_getD,List.getElem?_append,hix]
   have hiy:i - xs.length<ys.length:=by simp at hi;omega
   have e2:i*sz+j=xs.length*sz+((i - xs.length)*sz+j):=by
    rw [←Nat.add_assoc,←Nat.add_mul,show xs.length+(i - xs.length)=i by omega]
   rw [e,e2,h2 _ (xaD hiy hj)]
   exact hnew _ j hiy hj
theorem xey {xs ys:List AV} {sz:Nat} (hx:∀ x,x∈xs→x.okElem sz=true) (hy:∀ x,x∈ys→x.okElem sz=true):∀ x,x∈xs++ys→x.okElem sz=true:=fun x hxy=>by
 rcases List.mem_append.1 hxy with h|h
 · exact hx x h
 · exact hy x h
theorem HR.drew (hR:HR w A M B H):HR w.drew A M B H:=hR.grow ⟨rfl,rfl,rfl,Nat.le_refl _,fun _ _=>rfl⟩
theorem HR.ext {H':List Box} (hR:HR w A M B H) (h:∀ n,n<H.length→(∃ id m,id.base=n∧M id=some m)→H'[n]?=H[n]?):HR w A M B H' :=
 ⟨fun id m hm=>by
  obtain ⟨bx,h1,h2⟩:=hR.box id m hm
  exact ⟨bx,by rw [xcv (h id.base (xcH h1) ⟨id,m,rfl,hm⟩)];exact h1,h2⟩,hR.inj,hR.lt⟩
theorem HR.append (hR:HR w A M B H) (l:List Box):HR w A M B (H++l) :=
 hR.ext fun n hn _=>List.getElem?_append_left hn
theorem HR.none_of_base (hR:HR w A M B H) {id:Id} (h:H.length≤id.base):M id=none:=by
 cases hm:M id with
 | none=>rfl
 | some m =>
  obtain ⟨bx,h1,_⟩:=hR.box id m hm
  have:=xcH h1
  omega
theorem HR.none_of_length (hR:HR w A M B H) {n:Nat} (h:H.length≤n):M (.b n)=none:=hR.none_of_base (id:=.b n) h
theorem HR.free_of_length (hR:HR w A M B H) {n:Nat} (h:H.length≤n):Free M n:=⟨hR.none_of_base (id:=.b n) h,fun i j=>hR.none_of_base (id:=.r n i j) h⟩
set_option maxHeartbeats 1000000 in
structure Mv (w:World) (A:Nat→Prop) (M:Id→Option MB) (w':World) (A':Nat→Prop) (M':Id→Option MB):Prop where
 size:w.heap.size≤w'.heap.size
 keep:∀ b,b<w.heap.size→¬ A b→w'.heap[b]?=w.heap[b]?
 less:∀ b,b<w.heap.size→A' b→A b
 more:∀ b,b<w.heap.size→A b→(∀ id m,M id=some m→0<m.cap→m.b≠b)→A' b
 ext:MExt M M'
 touch:Touch w w' M M'
theorem Mv.rel {w w':World} {A A':Nat→Prop} {M M':Id→Option MB} (h:Mv w A M w' A' M') {v:Value} {x:AV} (hr:Rel w A M v x):Rel w' A' M' v x :=
 hr.mono h.keep h.size h.less h.ext
theorem HR.virt {w:World} {A:Nat→Prop} {M:Id→Option MB} {B:Nat} {H:List Box} (hR:HR w A M B H) (sz:Nat) (ty:TypeId) (pm:Bool) :
  HR w A (MPut M H.length ⟨0,0,sz,0,rty ty⟩) B (H++[⟨0,sz,ty,[],false,pm⟩])∧Mv w A M w A (MPut M H.length ⟨0,0,sz,0,rty ty⟩)∧∀ a,Rel w A (MPut M H.length ⟨0,0,sz,0,rty ty⟩) (.slice a 0 0) (.osl H.length 0 0 0):=by
 have hn:Free M H.length:=hR.free_of_length (Nat.le_refl _)
 have hext:MExt M (MPut M H.length ⟨0,0,sz,0,rty ty⟩):=xdr hn _
 have hcase:∀ id m',MPut M H.length ⟨0,0,sz,0,rty ty⟩ id=some m'→0<m'.cap→M id=some m':=fun id m' hm h0=>by
  by_cases hid:id=.b H.length
  · subst hid;simp [MPut] at hm;subst hm;exact absurd h0 (by simp)
  · simpa [MPut,hid] using hm
 refine ⟨⟨fun id m' hm'=>?_,fun id id' m1 m2 h1 h2 c1 c2 he=>hR.inj id id' m1 m2 (hcase id m1 h1 c1) (hcase id' m2 h2 c2) c1 c2 he,hR.lt⟩,⟨Nat.le_refl _,fun _ _ _=>rfl,fun _ _ h=>h,fun _ _ h _=>h,hext,⟨fun _ _ _=>rfl,fun id m' hm h0=>.inl ⟨id,m',hcase id m' hm h0,h0,rfl⟩⟩⟩,fun a=>?_⟩
 · by_cases hid:id=.b H.length
   · subst hid
     have:m'=⟨0,0,sz,0,rty ty⟩:=by simp [MPut] at hm';exact hm'.symm
     subst this
     have hc:∀ {p:Prop},0<(0:Nat)→p:=fun h=>absurd h (by simp)
     exact ⟨⟨0,sz,ty,[],false,pm⟩,by simp [getB],rfl,rfl,rfl,Nat.zero_le _,Nat.zero_le _,fun x hx=>by simp at hx,hc,hc,hc,hc⟩
   · have hm2:M id=some m':=by simpa [MPut,hid] using hm'
     obtain ⟨bx,g1,g2⟩:=hR.box id m' hm2
     exact ⟨bx,xfA g1,g2.mono (fun _=>rfl) (fun _ _ _=>rfl) (Nat.le_refl _) (fun _ _ h=>h) g2.guard hext⟩
 · exact .osl _ H.length 0 0 0 ⟨0,0,sz,0,rty ty⟩ (by simp [MPut]) (Nat.le_refl _) rfl fun _=>⟨by simp,a,by simp,fun h=>by simp at h⟩
structure ARuns (P:Program) (w:World) (t tt ty e:TypeId) (i:TypeInfo) (z v:Value) (n:Nat) (news:List Value):Prop where
 nil:(n:Int)≤9223372036854775807→n*i.bytes≤281474976710656→(Builtin.append_ #[t,tt] ty #[.slice none 0 0,v]).run P w =
  .ok (.slice (some ⟨w.heap.size,0,none⟩) n (grownCap w n 0 e)) (w.drew.alloc (.cells (news.toArray++Builtin.zeroCells z.cells (grownCap w n 0 e - n)) e))
 grow:∀ (b:Addr) (sLen sCap:Nat) (olds:List Value),olds.length=sLen*i.size→(∀ j u,olds[j]?=some u→w.cell? (b.add j)=some u)→sCap<sLen+n→((sLen+n:Nat):Int)≤9223372036854775807 →
  Builtin.nextslicecap (sLen+n) sCap*i.bytes≤281474976710656→(Builtin.append_ #[t,tt] ty #[.slice (some b) sLen sCap,v]).run P w =
   .ok (.slice (some ⟨w.heap.size,0,none⟩) (sLen+n) (grownCap w (sLen+n) sCap e))
    (w.drew.alloc (.cells (olds.toArray++news.toArray++Builtin.zeroCells z.cells (grownCap w (sLen+n) sCap e - (sLen+n))) e))
 room:∀ (g sLen sCap:Nat) (cur:Array Value),w.heap[g]?=some (.cells cur e (0,0))→sLen+n≤sCap→sLen*i.size+news.length≤cur.size →
  (Builtin.append_ #[t,tt] ty #[.slice (some ⟨g,0,none⟩) sLen sCap,v]).run P w =
   .ok (.slice (some ⟨g,0,none⟩) (sLen+n) sCap) (w.setRow g (cur.toList.take (sLen*i.size)++news++cur.toList.drop (sLen*i.size+news.length)).toArray)
def ASrc (P:Program) (w:World) (A:Nat→Prop) (M:Id→Option MB) (t tt ty e:TypeId) (sz:Nat) (v:Value) (ys:List AV) (pm:Bool):Prop :=
 (ys=[]∧∀ b len cap,len≤cap→(Builtin.append_ #[t,tt] ty #[.slice b len cap,v]).run P w=.ok (.slice b len cap) w) ∨
 (0<ys.length∧(∀ y,y∈ys→y.okElem sz=true)∧∃ news:List Value,news.length=ys.length*sz ∧
  (∀ i j,i<ys.length→j<sz→Rel w A (MP M pm) (news.getD (i*sz+j) undef) ((ys.getD i .top).cells.getD j .top)) ∧
  ∀ i z,P.info? e=some i→i.zero=some z→i.size=sz→ARuns P w t tt ty e i z v ys.length news)
theorem xju (hR:HR w A M B H) {t ty e:TypeId} {sz:Nat} (hpos:0<sz) (hu:P.underlying t=some (.slice e)) {i0:TypeInfo} (hi0:P.info? e=some i0) {v:Value} {x:AV} {ys:List AV} {pm:Bool} (hx:Rel w A M v x) (h:absElems H sz x=some (ys,pm)) :
  ASrc P w A M t t ty e sz v ys pm:=by
 rcases xgU hR hx h with ⟨he,a,cc,hxv⟩|⟨b,off,cc,hxv,hok,hcell⟩
 · subst hxv
   exact .inl ⟨he,fun b len cap hle=>xdK hu hi0 b len cap hle a cc⟩
 · subst hxv
   rcases Nat.eq_zero_or_pos ys.length with hn0|hn0
   · rw [hn0]
     exact .inl ⟨List.eq_nil_of_length_eq_zero hn0,fun b' len cap hle=>xdK hu hi0 b' len cap hle _ cc⟩
   · refine .inr ⟨hn0,hok,srcCells w b off (ys.length*sz),xbB _ _ _ _,fun i j hi hj=>xjn hcell hi hj,fun i z hi hz hs=>⟨fun h1 h2=>?_,fun b' sLen sCap olds h1 h2 h3 h4 h5=>?_,fun g sLen sCap cur h1 h2 h3=>?_⟩⟩
     · exact run_append_nil (P:=P) w t ty e i z hu hi hz ⟨b,off,none⟩ ys.length cc _ (by rw [xbB,hs]) (xer hpos hcell) hn0 h1 h2
     · exact run_append_grow (P:=P) w t ty e i z hu hi hz b' sLen sCap olds h1 h2 ⟨b,off,none⟩ ys.length cc _ (by rw [xbB,hs]) (xer hpos hcell) h3 h4 h5
     · exact run_append_room (P:=P) w t ty e i hu hi g sLen sCap cur h1 ⟨b,off,none⟩ ys.length cc _ (by rw [xbB,hs]) (xer hpos hcell) (xjm hpos hcell hok) h2 h3
theorem xeb (w:World) (t u ty e:TypeId) (i:TypeInfo) (z:Value) (ht:P.underlying t=some (.slice e)) (hu:P.underlying u=some .string) (hi:P.info? e=some i) (hz:i.zero=some z) (s:ByteArray)
  (h0:0<s.size) (h63:(s.size:Int)≤9223372036854775807) (h48:s.size*i.bytes≤281474976710656) :
  (Builtin.append_ #[t,u] ty #[.slice none 0 0,.string s]).run P w =
   .ok (.slice (some ⟨w.heap.size,0,none⟩) s.size (grownCap w s.size 0 e)) (w.drew.alloc (.cells ((Lib.strCells s).toArray++Builtin.zeroCells z.cells (grownCap w s.size 0 e - s.size)) e)):=by
 have hn:s.size≠0:=by omega
 have h63':¬ (9223372036854775807<(s.size:Int)):=by omega
 have h48':¬ (281474976710656<Builtin.nextslicecap s.size 0*i.bytes):=by rw [nextslicecap_zero h0];omega
 have hf:=Lib.run_firstCells_string (P:=P) w.drew i.size s
 simp [Builtin.append_,run_underlying ht,run_underlying hu,sizeOf,typeInfo,zeroValue,hi,hz,Builtin.lenOf,hn,h63',h48',Question.forced,run_firstCells_none,hf,newRow,grownCap]
theorem xdx {t u ty e:TypeId} {i:TypeInfo} (ht:P.underlying t=some (.slice e)) (hu:P.underlying u=some .string) (hi:P.info? e=some i) (b:Option Addr) (len cap:Nat) (hle:len≤cap) (s:ByteArray) (h0:s.size=0) :
  (Builtin.append_ #[t,u] ty #[.slice b len cap,.string s]).run P w=.ok (.slice b len cap) w:=by
 have hf:=Lib.run_firstCells_string (P:=P) w i.size s
 rw [h0] at hf
 have he:Lib.strCells s=[]:=List.eq_nil_of_length_eq_zero (by rw [Lib.strCells_length,h0])
 rw [he] at hf
 cases b<;>simp [Builtin.append_,run_underlying ht,run_underlying hu,sizeOf,typeInfo,hi,Builtin.lenOf,h0,hle,hf,storeCells]
theorem xll {t tt ty e:TypeId} (hu:P.underlying t=some (.slice e)) (hus:P.underlying tt=some .string) {i0:TypeInfo} (hi0:P.info? e=some i0) (s:ByteArray) :
  ASrc P w A M t tt ty e 1 (.string s) (s.data.toList.map fun (u:UInt8)=>.int .u8 u.toNat) true:=by
 have hsz:(s.data.toList.map fun (u:UInt8)=>AV.int .u8 u.toNat).length=s.size:=by rw [List.length_map,Array.length_toList];rfl
 rcases Nat.eq_zero_or_pos s.size with hn0|hn0
 · exact .inl ⟨List.eq_nil_of_length_eq_zero (by rw [hsz,hn0]),fun b len cap hle=>xdx hu hus hi0 b len cap hle s hn0⟩
 · refine .inr ⟨by rw [hsz];exact hn0,fun y hy=>?_,Lib.strCells s,by rw [Lib.strCells_length,hsz,Nat.mul_one],fun i j hi hj=>?_,fun i z hi hz hs=>⟨fun h1 h2=>?_,fun b' sLen sCap olds h1 h2 h3 h4 h5=>?_,fun g sLen sCap cur h1 h2 h3=>?_⟩⟩
   · obtain ⟨u,_,rfl⟩:=List.mem_map.1 hy
     rfl
   · have hj0:j=0:=by omega
     subst hj0
     rw [hsz] at hi
     have hi':i<s.data.toList.length:=by rw [Array.length_toList];exact hi
     simp only [Nat.mul_one,Nat.add_zero,List.getD_eq_getElem?_getD,List.getElem?_map,List.getElem?_eq_getElem hi',Option.map_some,Option.getD_some]
     have hc:(Lib.strCells s)[i]?=some (.int .u8 (s.data.toList[i].toNat:Int)):=by
      simp [Lib.strCells,List.getElem?_map,List.getElem?_eq_getElem hi']
     rw [hc]
     exact .int _ _
   · rw [hsz] at h1 h2 ⊢
     exact xeb w t tt ty e i z hu hus hi hz s hn0 h1 h2
   · rw [hsz] at h3 h4 h5 ⊢
     exact Lib.run_append_grow_string (P:=P) w t tt ty e i z hu hus hi hz b' sLen sCap olds h1 h2 s h3 h4 h5
   · rw [hsz] at h2 ⊢
     rw [hs,Nat.mul_one,Lib.strCells_length] at h3 ⊢
     exact Lib.run_append_room_string (P:=P) w t tt ty e i hu hus hi hs g sLen sCap cur h1 s h2 h3
theorem xdg (hR:HR w A M B H) {t tt ty e:TypeId} {te:TI} (hte:tinfo P e=some te) (hpos:0<te.sz) (hu:P.underlying t=some (.slice e)) {i0:TypeInfo} (hi0:P.info? e=some i0) {v:Value} {x:AV} {ys:List AV} {pm:Bool} (hx:Rel w A M v x) (h:absSrc P H t tt e te.sz x=some (ys,pm)) :
  ASrc P w A M t tt ty e te.sz v ys pm:=by
 unfold absSrc at h
 split at h
 · rename_i htt
   subst htt
   exact xju hR hpos hu hi0 hx h
 · split at h
   case h_2=>simp at h
   rename_i tj te' s htj hte'
   split at h
   case h_2=>simp at h
   rename_i hd1 hd2
   split at h
   case isFalse=>simp at h
   rename_i hsz
   rw [hte] at hte'
   obtain rfl:=(Option.some.injEq _ _).mp hte'
   simp only [Option.some.injEq,Prod.mk.injEq] at h
   obtain ⟨rfl,rfl⟩:=h
   have hus:P.underlying tt=some .string:=by rw [xce htj,hd1]
   cases hx with
   | str s =>
    rw [hsz]
    exact xll hu hus hi0 s
theorem xiK (hR:HR w A M B H) (hB:B≤w.heap.size) {o:Oper} {ρc:Operand→Value} {c:Call} {t tt e:TypeId} {te:TI} {os ox:Operand} {xs r:AV} {ys:List AV} {pm:Bool} {H':List Box} (ho:o.op=.call c) (hcal:c.callee=.builtin .append)
  (hts:c.argTypes.toList=[t,tt]) (has:c.args.toList=[os,ox]) (hs:Rel w A M (ρc os) xs) (hte:tinfo P e=some te) (hu:P.underlying t=some (.slice e))
  (hsrc:∀ v,v=ρc ox→ASrc P w A M t tt o.type e te.sz v ys pm) (h:absApp H e te xs ys pm=some (r,H')) :
  Writes P o ρc w A M B r H':=by
 unfold absApp at h
 obtain ⟨i,z,hi1,hi2,hi3,hi4,hi5,hi6,_⟩:=xaj hte
 have hpe:isC e=false:=xcm hte
 have hts':c.argTypes=#[t,tt]:=by apply Array.ext';simpa using hts
 have has':c.args=#[os,ox]:=by apply Array.ext';simpa using has
 have hrunE:∀ v w',(Builtin.append_ #[t,tt] o.type #[ρc os,ρc ox]).run P w=.ok v w'→(execOp ρc o).run P w=.ok (.value v) w':=by
  intro v w' hv
  simp [execOp,ho,resolve,hcal,hts',has',invoke,builtin,hv,Go.resolve]
 replace hsrc:=hsrc _ rfl
 split at h
 ·
  have hsv:ρc os=.slice none 0 0:=by
   generalize ρc os=v at hs
   cases hs;rfl
  rw [hsv] at hrunE
  split at h
  case isFalse=>simp at h
  rename_i hc0
  obtain ⟨hpos,hby,hln,hzok⟩:=hc0
  simp only [Option.some.injEq,Prod.mk.injEq] at h;obtain ⟨rfl,rfl⟩:=h
  rcases hsrc with ⟨rfl,hz0⟩|⟨hn0,hok,news,hnl,hnr,hruns⟩
  · obtain ⟨g1,g2,g3⟩:=hR.virt te.sz e pm
    exact ⟨_,w,A,_,.slice none 0 0,hrunE _ _ (hz0 none 0 0 (Nat.le_refl _)),.inl rfl,Below.refl _ _,g2.ext,fun _ _=>Iff.rfl,fun _ _ _=>rfl,g2.touch,g1,g3 none⟩
  have hsm:ys.length≤4611686018427387904:=hln
  have hrz:Rel w A M z te.zero:=by rw [hi6];exact xaG w A M z
  obtain ⟨hzc,_⟩:=hrz.cells (xag hzok)
  have hzl:=xab hzok
  have hrun:=(hruns i z hi1 hi3 hi4.symm).nil (by omega) (by rw [←hi5];omega)
  have hge:=grownCap_ge w ys.length 0 e
  have hcm:=grownCap_le_maxLen w ys.length 0 e (by unfold maxLen;omega)
  generalize hcap:grownCap w ys.length 0 e=cap at hrun hge hcm
  have hlt:H.length<(H++[(⟨0,te.sz,e,ys,false,pm⟩:Box)]).length:=by simp
  have hR':HR w.drew A M B (H++[⟨0,te.sz,e,ys,false,pm⟩]):=hR.drew.append _
  have hzsz:(Builtin.zeroCells z.cells (cap - ys.length)).size=(cap - ys.length)*te.sz:=by rw [size_zeroCells];congr 1;omega
  have hst:=xc7 (bx:=⟨0,te.sz,e,ys,false,pm⟩) (nid:=H.length) (c:=news.toArray++Builtin.zeroCells z.cells (cap - ys.length)) (cap:=cap) hR' (by simpa using hB) (hR.free_of_length (Nat.le_refl _)) hpe (by simp) hcm
   (by rw [Array.size_append,List.size_toArray,hnl,hzsz,←Nat.add_mul];congr 1;omega) hge hok
   (fun i' j hi' hj=>by
    have hk:i'*te.sz+j<ys.length*te.sz:=xaD hi' hj
    have e1:(news.toArray++Builtin.zeroCells z.cells (cap - ys.length)).getD (i'*te.sz+j) undef=news.getD (i'*te.sz+j) undef:=by
     simp only [Array.getD_eq_getD_getElem?,Array.getElem?_append,List.size_toArray,hnl,hk,if_true,List.getElem?_toArray,List.getD_eq_getElem?_getD]
    rw [e1]
    exact (hnr _ _ hi' hj).grow ⟨rfl,rfl,rfl,Nat.le_refl _,fun _ _=>rfl⟩)
  obtain ⟨s1,s2,s3,s4,s5⟩:=hst
  have hbel:Below w.heap.size w (w.drew.alloc (.cells (news.toArray++Builtin.zeroCells z.cells (cap - ys.length)) e)):=((Below.refl _ _).drew).alloc (by simp) _
  exact ⟨_,_,_,_,_,hrunE _ _ hrun,.inl rfl,hbel.mono hB,s1,s2,fun b hb _=>hbel.block b hb,.of_new hbel (fun id m' hm'=>by
   by_cases hid:id=.b H.length
   · subst hid;exact s3.2 m' hm'
   · rw [s3.1 id hid] at hm';exact .inl hm'),s4,.osl _ H.length 0 0 ys.length _ s5 (Nat.le_refl _) rfl fun _=>⟨by simpa using hge,some ⟨w.heap.size,0,none⟩,by simp,fun _=>by simp⟩⟩
 · rename_i id ver off len
   split at h
   case h_2=>simp at h
   rename_i bx hbx
   split at h
   case isFalse=>simp at h
   rename_i hc0
   obtain ⟨rfl,hlen,hfz,hsz,hty,hpos,hby,hln,hzok⟩:=hc0
   simp only [Option.some.injEq,Prod.mk.injEq] at h;obtain ⟨rfl,rfl⟩:=h
   have hpb:isC bx.ty=false:=by rw [hty];exact hpe
   obtain ⟨m,a,hm,hbat,hfit,hsv,ha⟩:=xb6 hR hs hbx
   obtain ⟨hb1,hb2⟩:=xaf hbx
   simp only [Nat.sub_zero,Nat.zero_add] at hsv hfit
   have hms:m.sz=te.sz:=by rw [←hbat.sz,hsz]
   have hmt:m.ty=e:=by rw [←hbat.ty,xal hpb,hty]
   have hmv:m.ver=ver:=by rw [←hbat.ver,hb2]
   have hlsm:len+ys.length≤4611686018427387904:=hln
   have moved:∀ (c1:Array Value) (cap:Nat),c1.size=cap*te.sz→len+ys.length≤cap→cap≤maxLen→(∀ y,y∈ys→y.okElem te.sz=true) →
     (∀ i j,i<(bx.xs++ys).length→j<te.sz→Rel w A (MP M (bx.pm&&pm)) (c1.getD (i*te.sz+j) undef) (((bx.xs++ys).getD i .top).cells.getD j .top)) →
     (Builtin.append_ #[t,tt] o.type #[ρc os,ρc ox]).run P w=.ok (.slice (some ⟨w.heap.size,0,none⟩) (len+ys.length) cap) (w.drew.alloc (.cells c1 e)) →
     Writes P o ρc w A M B (.osl id (ver+1) 0 (len+ys.length)) (H.set id ⟨ver+1,te.sz,e,bx.xs++ys,false,bx.pm&&pm⟩):=by
    intro c1 cap hc1s hge hcm hok hrel hrun
    have hbel:Below w.heap.size w (w.drew.alloc (.cells c1 e)):=((Below.refl _ _).drew).alloc (by simp) _
    let m1:MB:=⟨w.heap.size,ver+1,te.sz,cap,e⟩
    have hext:MExt M (MSet M id m1):=xej hm (.inr (by simp [m1,hmv]))
    have hA:∀ b,b<w.heap.size→(APut A w.heap.size false b→A b):=fun b hb h=>by
     rcases h with h|⟨h,_⟩
     · exact h
     · omega
    have hrelup:∀ u x,Rel w A (MP M (bx.pm&&pm)) u x→Rel (w.drew.alloc (.cells c1 e)) (APut A w.heap.size false) (MP (MSet M id m1) (bx.pm&&pm)) u x:=fun u x hr=>hr.mono (fun b hb _=>hbel.block b hb) hbel.size hA (xfk hext _)
    refine ⟨_,_,APut A w.heap.size false,MSet M id m1,_,hrunE _ _ hrun,.inl rfl,hbel.mono hB,hext,fun b hb=>⟨hA b hb,.inl⟩,fun b hb _=>hbel.block b hb,.of_new hbel (fun i m' hm'=>?_),⟨?_,?_,?_⟩,.osl _ id (ver+1) 0 (len+ys.length) m1 (by simp [MSet]) (Nat.le_refl _) rfl fun _=>⟨by simpa [m1] using hge,some ⟨w.heap.size,0,none⟩,by simp [m1],fun _=>by simp [m1]⟩⟩
    · by_cases hii:i=id
      · subst hii
        have:m'=m1:=by simp [MSet] at hm';exact hm'.symm
        subst this
        exact .inr (Nat.le_refl _)
      · exact .inl (by simpa [MSet,hii] using hm')
    · intro i' m2 hm2
      by_cases hii:i'=id
      · subst hii
        have:m2=m1:=by simp [MSet] at hm2;exact hm2.symm
        subst this
        refine ⟨_,by rw [xaK,List.getElem?_set_self (xbj hb1)],⟨rfl,rfl,xal hpe,hcm,by simp [m1];omega,xey (fun x hx=>by have:=hbat.ok x hx;rwa [hms] at this) hok,fun _=>by simpa [m1] using hB,fun _=>by simp [m1],fun _=>⟨c1,.of (xak hpe) (by simpa [m1] using heap_alloc_new w.drew (.cells c1 e)),by simpa [m1] using hc1s,?_⟩,fun _=>⟨fun _=>.inr ⟨rfl,rfl⟩,fun _=>rfl⟩⟩⟩
        intro i j hi hj
        rw [xai hpe,xau hpe]
        exact hrelup _ _ (hrel i j hi hj)
      · have hm3:M i'=some m2:=by simpa [MSet,hii] using hm2
        obtain ⟨bx2,g1,g2⟩:=hR.box i' m2 hm3
        exact ⟨bx2,by rw [xbs hb1 hpb hpe hii];exact g1,g2.mono (fun h0=>hbel.block _ (g2.lt h0)) (fun b hb _=>hbel.block b hb) hbel.size hA (fun h0=>⟨fun hf=>.inl ((g2.guard h0).1 hf),fun hf=>(g2.guard h0).2 (hA _ (g2.lt h0) hf)⟩) hext⟩
    · intro i' i'' m2 m3 hm2 hm3 c1' c2' he
      by_cases hi':i'=id<;>by_cases hi'':i''=id
      · rw [hi',hi'']
      · exfalso
        have g1:m2=m1:=by simp [MSet,hi'] at hm2;exact hm2.symm
        have g2:M i''=some m3:=by simpa [MSet,hi''] using hm3
        obtain ⟨bx2,_,g3⟩:=hR.box i'' m3 g2
        have:=g3.lt c2'
        rw [←he,g1] at this
        simp [m1] at this
      · exfalso
        have g1:m3=m1:=by simp [MSet,hi''] at hm3;exact hm3.symm
        have g2:M i'=some m2:=by simpa [MSet,hi'] using hm2
        obtain ⟨bx2,_,g3⟩:=hR.box i' m2 g2
        have:=g3.lt c1'
        rw [he,g1] at this
        simp [m1] at this
      · exact hR.inj i' i'' m2 m3 (by simpa [MSet,hi'] using hm2) (by simpa [MSet,hi''] using hm3) c1' c2' he
    · intro b hb
      rcases hb with hb|⟨rfl,_⟩
      · have:=hR.lt b hb;simp;omega
      · simp
   rcases Nat.eq_zero_or_pos m.cap with hcap0|hcap0
   ·
    have hx0:bx.xs=[]:=List.eq_nil_of_length_eq_zero (by omega)
    have hl0:len=0:=by omega
    subst hl0
    rw [hcap0] at hsv
    rcases hsrc with ⟨rfl,hz0⟩|⟨hn0,hok,news,hnl,hnr,hruns⟩
    · obtain ⟨g1,g2,g3⟩:=xkJ (m':=⟨m.b,ver+1,m.sz,m.cap,m.ty⟩) (bx':=⟨ver+1,te.sz,e,bx.xs++[],false,bx.pm&&pm⟩) hR hcap0 hm hb1 hpb hpe rfl rfl (.inr (by simp [hmv])) rfl hms.symm hmt.symm (by simp [hx0])
      exact ⟨_,_,A,_,_,hrunE _ _ (by rw [hsv];simpa using hz0 a 0 0 (Nat.le_refl _)),.inl rfl,Below.refl _ _,g2,fun _ _=>Iff.rfl,fun _ _ _=>rfl,g3,g1,.osl _ id (ver+1) 0 0 ⟨m.b,ver+1,m.sz,m.cap,m.ty⟩ (by simp [MSet]) (Nat.le_refl _) rfl fun _=>⟨by simp,a,by simp [hcap0],fun h=>by simp at h;omega⟩⟩
    · have hrz:Rel w A M z te.zero:=by rw [hi6];exact xaG w A M z
      obtain ⟨hzc,_⟩:=hrz.cells (xag hzok)
      have hzl:=xab hzok
      have hge:=grownCap_ge w (0+ys.length) 0 e
      have hcm:=grownCap_le_maxLen w (0+ys.length) 0 e (by unfold maxLen;omega)
      have hzsz:(Builtin.zeroCells z.cells (grownCap w (0+ys.length) 0 e - ys.length)).size=(grownCap w (0+ys.length) 0 e - ys.length)*te.sz:=by rw [size_zeroCells];congr 1;omega
      refine moved (news.toArray++Builtin.zeroCells z.cells (grownCap w (0+ys.length) 0 e - ys.length)) (grownCap w (0+ys.length) 0 e) (by rw [Array.size_append,List.size_toArray,hnl,hzsz,←Nat.add_mul];congr 1;omega) hge hcm hok (fun i' j hi' hj=>?_) ?_
      · rw [hx0,List.nil_append] at hi' ⊢
        have hk:i'*te.sz+j<ys.length*te.sz:=xaD hi' hj
        have e1:(news.toArray++Builtin.zeroCells z.cells (grownCap w (0+ys.length) 0 e - ys.length)).getD (i'*te.sz+j) undef=news.getD (i'*te.sz+j) undef:=by
         simp only [Array.getD_eq_getD_getElem?,Array.getElem?_append,List.size_toArray,hnl,hk,if_true,List.getElem?_toArray,List.getD_eq_getElem?_getD]
        rw [e1]
        exact (hnr _ _ hi' hj).mp_and'
      · rw [hsv]
        cases a with
        | none =>
         have hrun:=(hruns i z hi1 hi3 hi4.symm).nil (by omega) (by rw [←hi5];simp at hby;omega)
         simpa using hrun
        | some a =>
         have hrun:=(hruns i z hi1 hi3 hi4.symm).grow a 0 0 [] (by simp) (by simp) (by omega) (by omega) (growslice_fits (by omega) (by rw [←hi5];exact hby))
         simpa using hrun
   have haa:=ha hcap0;subst haa
   simp only [Nat.zero_mul] at hsv
   obtain ⟨c0,h1,h2,h3⟩:=hbat.cells hcap0
   replace h1:=h1.plain (hbat.nomap (xak hpb))
   replace h3:∀ i j,i<bx.xs.length→j<m.sz→Rel w A (MP M bx.pm) (c0.getD (i*m.sz+j) undef) ((bx.xs.getD i .top).cells.getD j .top):=fun i j hi hj=>by
    have:=h3 i j hi hj
    rw [xai hpb,xau hpb] at this;exact this
   have hAm:A m.b:=(hbat.guard hcap0).1 hfz
   rw [hms] at h2 h3
   rw [hmt] at h1
   have inplace:∀ (news:List Value),news.length=ys.length*te.sz→(∀ y,y∈ys→y.okElem te.sz=true)→len+ys.length≤m.cap →
     (∀ i j,i<ys.length→j<te.sz→Rel w A (MP M pm) (news.getD (i*te.sz+j) undef) ((ys.getD i .top).cells.getD j .top)) →
     (Builtin.append_ #[t,tt] o.type #[ρc os,ρc ox]).run P w=.ok (.slice (some ⟨m.b,0,none⟩) (len+ys.length) m.cap) (w.setRow m.b (splice c0.toList (len*te.sz) news).toArray) →
     Writes P o ρc w A M B (.osl id (ver+1) 0 (len+ys.length)) (H.set id ⟨ver+1,te.sz,e,bx.xs++ys,false,bx.pm&&pm⟩):=by
    intro news hnl hok hroom hnew hrun
    have hoff:len*te.sz+news.length≤c0.toList.length:=by
     have hll:c0.toList.length=m.cap*te.sz:=by simpa using h2
     rw [hnl,←Nat.add_mul,hll]
     exact Nat.mul_le_mul_right _ hroom
    obtain ⟨g1,g2,g3,g4,gt,g5⟩:=xcF (m':=⟨m.b,ver+1,m.sz,m.cap,m.ty⟩) (bx':=⟨ver+1,te.sz,e,bx.xs++ys,false,bx.pm&&pm⟩) hR hcap0 hm hb1 hbat hpb hpe hfz (c':=(splice c0.toList (len*te.sz) news).toArray) rfl rfl rfl rfl (.inr (by simp [hmv]))
     rfl hms.symm hmt.symm rfl (by simp;omega) (by rw [hms];exact xey (fun x hx=>by rw [←hms];exact hbat.ok x hx) hok)
     (by have:=xbV hoff;simp at this ⊢;rw [this,h2,hms])
     (by
      rw [hms]
      intro i j hi hj
      rw [xbi]
      refine xgg (M:=MP M (bx.pm&&pm)) (c:=c0.toList) hnl (fun i j hi hj=>by rw [xas];exact (h3 i j hi hj).mp_and) (fun i j hi hj=>(hnew i j hi hj).mp_and') (fun k hk=>?_) (fun k hk=>?_) i j hi hj
      · rw [xbK hoff,if_neg (by rw [hlen];omega)]
      · rw [xbK hoff,if_pos (by rw [hlen,hnl];omega),←hlen,show len*te.sz+k - len*te.sz=k by omega])
    exact ⟨_,_,A,_,_,hrunE _ _ hrun,.inl rfl,g4,g2,fun _ _=>Iff.rfl,g3,gt,g1,.osl _ id (ver+1) 0 (len+ys.length) ⟨m.b,ver+1,m.sz,m.cap,m.ty⟩ (by simp [MSet]) (Nat.le_refl _) rfl fun _=>⟨by simpa using hroom,some ⟨m.b,0,none⟩,by simp,fun _=>by simp⟩⟩
   have hlc:len≤m.cap:=hfit
   rcases hsrc with ⟨rfl,hz0⟩|⟨hn0,hok,news,hnl,hnr,hruns⟩
   · refine inplace [] (by simp) (by simp) (by simpa using hlc) (by simp) ?_
     have hsp:(splice c0.toList (len*te.sz) []).toArray=c0:=by simp [splice]
     have hself:w.setRow m.b c0=w:=setRow_self w m.b c0 e (0,0) h1
     rw [hsp,hself,hsv]
     simpa using hz0 (some ⟨m.b,0,none⟩) len m.cap hlc
   · by_cases hroom:len+ys.length≤m.cap
     · refine inplace news (hnl) hok hroom (fun i j hi hj=>hnr _ _ hi hj) ?_
       have hfitc:len*i.size+news.length≤c0.size:=by
        rw [hnl,←hi4,←Nat.add_mul,h2]
        exact Nat.mul_le_mul_right _ hroom
       have:=(hruns i z hi1 hi3 hi4.symm).room m.b len m.cap c0 h1 hroom hfitc
       rw [hsv,this]
       rw [←hi4]
       rfl
     · have holds:∀ j u,(c0.toList.take (len*te.sz))[j]?=some u→w.cell? ((⟨m.b,0,none⟩:Addr).add j)=some u:=by
        intro j u hu'
        rw [List.getElem?_take] at hu'
        split at hu'
        · rw [xbv,Nat.zero_add]
          simp [World.cell?,h1]
          simpa using hu'
        · simp at hu'
       have hol:(c0.toList.take (len*te.sz)).length=len*te.sz:=by
        simp only [List.length_take,Array.length_toList,h2]
        have:len*te.sz≤m.cap*te.sz:=Nat.mul_le_mul_right _ hlc
        omega
       have hrun:=(hruns i z hi1 hi3 hi4.symm).grow ⟨m.b,0,none⟩ len m.cap (c0.toList.take (len*te.sz)) (by rw [hol,hi4]) holds (by omega) (by omega) (growslice_fits (by omega) (by rw [←hi5];exact hby))
       have hge:=grownCap_ge w (len+ys.length) m.cap e
       have hcm:=grownCap_le_maxLen w (len+ys.length) m.cap e (by unfold maxLen;omega)
       generalize hcap:grownCap w (len+ys.length) m.cap e=cap at hrun hge hcm
       have hrz:Rel w A M z te.zero:=by rw [hi6];exact xaG w A M z
       obtain ⟨hzc,_⟩:=hrz.cells (xag hzok)
       have hzl:=xab hzok
       have hzsz:(Builtin.zeroCells z.cells (cap - (len+ys.length))).size=(cap - (len+ys.length))*te.sz:=by rw [size_zeroCells];congr 1;omega
       generalize hcc:(c0.toList.take (len*te.sz)).toArray++news.toArray++Builtin.zeroCells z.cells (cap - (len+ys.length))=c1 at hrun
       have hc1s:c1.size=cap*te.sz:=by
        rw [←hcc]
        simp only [Array.size_append,List.size_toArray,hol,hnl,hzsz,←Nat.add_mul]
        congr 1
        omega
       have hc1a:∀ k,k<bx.xs.length*te.sz→c1.toList.getD k undef=c0.toList.getD k undef:=by
        intro k hk
        rw [←hlen] at hk
        rw [←hcc]
        simp only [Array.toList_append,List.append_assoc,List.getD_eq_getElem?_getD,List.getElem?_append,hol,hk,if_true,List.getElem?_take]
       have hc1b:∀ k,k<ys.length*te.sz→c1.toList.getD (bx.xs.length*te.sz+k) undef=news.getD k undef:=by
        intro k hk
        rw [←hlen,←hcc]
        simp only [Array.toList_append,List.append_assoc,List.getD_eq_getElem?_getD,List.getElem?_append,hol,show ¬ len*te.sz+k<len*te.sz by omega,if_false,hnl,show len*te.sz+k - len*te.sz=k by omega,hk,if_true]
       refine moved c1 cap hc1s hge hcm hok (fun i j hi hj=>?_) (by rw [hsv];exact hrun)
       rw [←xas]
       exact xgg (M:=MP M (bx.pm&&pm)) (c:=c0.toList) (hnl) (fun i j hi hj=>by rw [xas];exact (h3 i j hi hj).mp_and) (fun i j hi hj=>(hnr _ _ hi hj).mp_and') hc1a hc1b i j hi hj
 · simp at h
theorem xeU (hR:HR w A M B H) (hB:B≤w.heap.size) {o:Oper} {ρc:Operand→Value} {c:Call} {t tt:TypeId} {os ox:Operand} {xs xx r:AV} {H':List Box} (ho:o.op=.call c) (hcal:c.callee=.builtin .append)
  (hts:c.argTypes.toList=[t,tt]) (has:c.args.toList=[os,ox]) (hs:Rel w A M (ρc os) xs) (hx:Rel w A M (ρc ox) xx) (h:absAppend P H t tt xs xx=some (r,H')) :
  Writes P o ρc w A M B r H':=by
 unfold absAppend at h
 split at h
 case h_2=>simp at h
 rename_i ti hti
 split at h
 case h_2=>simp at h
 rename_i e hd
 split at h
 case h_2=>simp at h
 rename_i te hte
 split at h
 case h_2=>simp at h
 rename_i ys pm hys
 have hu:P.underlying t=some (.slice e):=by rw [xce hti,hd]
 have hpos:0<te.sz:=by
  unfold absApp at h
  split at h
  · split at h
    case isFalse=>simp at h
    rename_i hc;exact hc.1
  · split at h
    case h_2=>simp at h
    split at h
    case isFalse=>simp at h
    rename_i hc;exact hc.2.2.2.2.2.1
  · simp at h
 obtain ⟨i,z,hi1,_⟩:=xaj hte
 exact xiK hR hB ho hcal hts has hs hte hu (fun v hv=>by subst hv;exact xdg hR hte hpos hu hi1 hx hys) h
theorem xec {z:Array Value} {n k:Nat} (hk:k<n*z.size) (hz:0<z.size):(Builtin.zeroCells z n).getD k undef=z.getD (k % z.size) undef:=by
 have hm:k % z.size<z.size:=Nat.mod_lt _ hz
 simp [Builtin.zeroCells,Array.getD_eq_getD_getElem?,hk,hm]
theorem xiN (hR:HR w A M B H) {o:Oper} {ρc:Operand→Value} {c:Call} {t:TypeId} {ox:Operand} {xx:AV} {H':List Box} (ho:o.op=.call c) (hcal:c.callee=.builtin .clear)
  (hts:c.argTypes.toList=[t]) (has:c.args.toList=[ox]) (hx:Rel w A M (ρc ox) xx) (h:absClear P H t xx=some H'):Writes P o ρc w A M B (.tuple []) H':=by
 unfold absClear at h
 split at h
 case h_2=>simp at h
 rename_i ti hti
 split at h
 case h_2=>simp at h
 rename_i e hd
 split at h
 case h_2=>simp at h
 rename_i te hte
 split at h
 case h_2=>simp at h
 rename_i id ver off len
 split at h
 case h_2=>simp at h
 rename_i bx hbx
 split at h
 case isFalse=>simp at h
 rename_i hc0
 obtain ⟨hfz,hsz,hlen,hzok,hzp,hpl⟩:=hc0
 simp only [Option.some.injEq] at h;subst h
 have hu:P.underlying t=some (.slice e):=by rw [xce hti,hd]
 obtain ⟨i,z,hi1,hi2,hi3,hi4,hi5,hi6,_⟩:=xaj hte
 have hts':c.argTypes=#[t]:=by apply Array.ext';simpa using hts
 have has':c.args=#[ox]:=by apply Array.ext';simpa using has
 have hrunE:∀ v w',(Builtin.clear_ #[t] o.type #[ρc ox]).run P w=.ok v w'→(execOp ρc o).run P w=.ok (.value v) w':=by
  intro v w' hv
  simp [execOp,ho,resolve,hcal,hts',has',invoke,builtin,hv,Go.resolve]
 obtain ⟨m,a,hm,hbat,hfit,hsv,ha⟩:=xb6 hR hx hbx
 obtain ⟨hb1,hb2⟩:=xaf hbx
 have hms:m.sz=te.sz:=by rw [←hbat.sz,hsz]
 rcases Nat.eq_zero_or_pos len with rfl|hlen0
 · have he:(⟨ver,bx.sz,bx.ty,bx.xs.take off++(List.replicate 0 te.zero++bx.xs.drop (off+0)),false,bx.pm⟩:Box)=bx:=by
    cases bx;simp_all
   have hb1:H[id]?=some bx:=hb1
   have hset:H.set id bx=H:=by
    apply List.ext_getElem?
    intro k
    by_cases hk:id=k
    · subst hk
      rw [hb1,List.getElem?_set_self]
      rcases Nat.lt_or_ge id H.length with h'|h'
      · exact h'
      · rw [List.getElem?_eq_none h'] at hb1;simp at hb1
    · rw [List.getElem?_set_ne hk]
   rw [he,hset]
   have hrun:(Builtin.clear_ #[t] o.type #[ρc ox]).run P w=.ok (.tuple #[]) w:=by
    rw [hsv];cases a<;>simp [Builtin.clear_,run_underlying hu]
   exact ⟨_,w,A,M,.tuple #[],hrunE _ _ hrun,.inl rfl,Below.refl _ _,MExt.refl _,fun _ _=>Iff.rfl,fun _ _ _=>rfl,Touch.of_new (Below.refl _ _) (fun id m hm=>.inl hm),hR,.tuple #[] [] rfl (by simp)⟩
 · have hoff:off<m.cap:=by have:=hbat.fits;omega
   have hcap0:0<m.cap:=by omega
   have haa:=ha hoff;subst haa
   obtain ⟨cc,h1,h2,h3⟩:=hbat.cells hcap0
   replace h1:=h1.plain (hbat.nomap (xak hpl))
   replace h3:∀ i j,i<bx.xs.length→j<m.sz→Rel w A (MP M bx.pm) (cc.getD (i*m.sz+j) undef) ((bx.xs.getD i .top).cells.getD j .top):=fun i j hi hj=>by
    have:=h3 i j hi hj
    rw [xai hpl,xau hpl] at this;exact this
   have hty':bx.ty=m.ty:=by rw [←hbat.ty,xal hpl]
   have hrz:Rel w A M z te.zero:=by rw [hi6];exact xaG w A M z
   obtain ⟨hzc,hzr⟩:=hrz.cells (xag hzok)
   have hzl:=xab hzok
   have hzs:z.cells.size=m.sz:=by omega
   have hnl:(Builtin.zeroCells z.cells len).toList.length=len*m.sz:=by simp [size_zeroCells,hzs]
   have hoffc:off*m.sz+(Builtin.zeroCells z.cells len).toList.length≤cc.toList.length:=by
    rw [hnl,←Nat.add_mul,Array.length_toList,h2]
    exact Nat.mul_le_mul_right _ (by have:=hbat.fits;omega)
   have hone:∀ u,u∈(Builtin.zeroCells z.cells len).toList→u.oneCell'=true:=fun u hu=>by
    obtain ⟨k,hk,rfl⟩:=List.mem_iff_getElem.1 hu
    rw [hnl] at hk
    have hz0:0<z.cells.size:=by
     rcases Nat.eq_zero_or_pos z.cells.size with h0|h0
     · rw [←hzs,h0] at hk;simp at hk
     · exact h0
    have hg:=xec (z:=z.cells) (n:=len) (k:=k) (by rw [hzs];exact hk) hz0
    have e1:(Builtin.zeroCells z.cells len).toList[k]'(by rw [hnl];exact hk)=z.cells.getD (k % z.cells.size) undef:=by
     rw [←hg];simp [Array.getD_eq_getD_getElem?,size_zeroCells,hzs,hk]
    rw [e1]
    have hmod:k % z.cells.size<te.zero.cells.length:=by rw [←hzc];exact Nat.mod_lt _ hz0
    refine (hzr _ hmod).oneCell ?_
    have:=xag hzok
    rw [List.all_eq_true] at this
    exact this _ (xad hmod)
   have hst:=run_storeCells_at P m.b (off*m.sz) m.ty (Builtin.zeroCells z.cells len).toList 0 cc w h1 (by simpa using hoffc) hone
   simp only [Nat.add_zero] at hst
   have hxl:(bx.xs.take off).length=off:=by simp;omega
   obtain ⟨g1,g2,g3,g4,gt,g5⟩:=xcF (m':=m) (bx':=⟨ver,bx.sz,bx.ty,bx.xs.take off++(List.replicate len te.zero++bx.xs.drop (off+len)),false,bx.pm⟩) hR hcap0 hm hb1 hbat hpl hpl hfz (c':=(splice cc.toList (off*m.sz) (Builtin.zeroCells z.cells len).toList).toArray) rfl rfl rfl rfl (.inl rfl)
    (by rw [←hbat.ver,←hb2]) hbat.sz hty' rfl (by have:=hbat.fits;simp;omega)
    (fun x hx=>by
     rcases List.mem_append.1 hx with hx|hx
     · exact hbat.ok x (List.mem_of_mem_take hx)
     · rcases List.mem_append.1 hx with hx|hx
       · rw [(List.mem_replicate.1 hx).2,hms];exact hzok
       · exact hbat.ok x (List.mem_of_mem_drop hx))
    (by have:=xbV hoffc;simp at this ⊢;omega)
    (fun i' j' hi' hj'=>by
     have hi'':i'<bx.xs.length:=by simp at hi';omega
     rw [xbi,xbK hoffc,hnl]
     by_cases c1:i'<off
     · have e1:(bx.xs.take off++(List.replicate len te.zero++bx.xs.drop (off+len))).getD i' .top=bx.xs.getD i' .top:=by
        simp [List.getD_eq_getElem?_getD,List.getElem?_append,hxl,c1,List.getElem?_take,hi'']
       have:i'*m.sz+j'<off*m.sz:=xaD c1 hj'
       rw [if_neg (by omega),xas,e1]
       exact h3 i' j' hi'' hj'
     · by_cases c2:i'<off+len
       · have e1:(bx.xs.take off++(List.replicate len te.zero++bx.xs.drop (off+len))).getD i' .top=(List.replicate len te.zero).getD (i' - off) .top:=by
          simp [List.getD_eq_getElem?_getD,List.getElem?_append,hxl,c1,show i' - off<len by omega]
         have p1:off*m.sz≤i'*m.sz:=Nat.mul_le_mul_right _ (by omega)
         have p2:i'*m.sz+j'<(off+len)*m.sz:=xaD c2 hj'
         rw [Nat.add_mul] at p2
         rw [if_pos (by omega),e1]
         have p3:i'*m.sz+j' - off*m.sz=(i' - off)*m.sz+j':=by rw [Nat.sub_mul];omega
         rw [p3,xas]
         have hlt:(i' - off)*m.sz+j'<len*m.sz:=xaD (by omega) hj'
         have:=xc3 (w:=w) (A:=A) (M:=MP M bx.pm) (z:=z) (x:=te.zero) (n:=len) (sz:=te.sz) (by rw [hi6];exact xaG w A _ z) hzok (i:=i' - off) (j:=j') (by omega) (by omega) (c:=Builtin.zeroCells z.cells len) (by rw [size_zeroCells,hzs,←hms];exact hlt)
          (fun k hk=>xec (by rw [size_zeroCells] at hk;exact hk) (by omega))
         rw [hms]
         exact this
       · have e1:(bx.xs.take off++(List.replicate len te.zero++bx.xs.drop (off+len))).getD i' .top=bx.xs.getD i' .top:=by
          simp only [List.getD_eq_getElem?_getD,List.getElem?_append,hxl,c1,if_false,List.length_replicate,show ¬ i' - off<len by omega,List.getElem?_drop]
          congr 2;omega
         have p1:(off+len)*m.sz≤i'*m.sz:=Nat.mul_le_mul_right _ (by omega)
         rw [Nat.add_mul] at p1
         rw [if_neg (by omega),xas,e1]
         exact h3 i' j' hi'' hj')
   have hrun:(Builtin.clear_ #[t] o.type #[ρc ox]).run P w=.ok (.tuple #[]) (w.setRow m.b (splice cc.toList (off*m.sz) (Builtin.zeroCells z.cells len).toList).toArray):=by
    obtain ⟨n,rfl⟩:∃ n,len=n+1:=⟨len - 1,by omega⟩
    have hzr':(zeroValue e).run P w=.ok z w:=by simp [zeroValue,typeInfo,hi1,hi3]
    rw [hsv]
    simp only [Builtin.clear_,List.getElem?_toArray,List.getElem?_cons_zero,Sem.run_bind,run_underlying hu,Result.andThen_ok,hzr',hst]
    rfl
   exact ⟨_,_,A,_,.tuple #[],hrunE _ _ hrun,.inl rfl,g4,g2,fun _ _=>Iff.rfl,g3,gt,g1,.tuple #[] [] rfl (by simp)⟩
theorem HR.rebuild (hR:HR w A M B H) {w':World} {A':Nat→Prop} {M':Id→Option MB} {H':List Box} (S:Nat→Prop)
  (hH:∀ k,¬ S k→k<H.length→H'[k]?=H[k]?) (hM:∀ j:Id,¬ S j.base→M' j=M j)
  (hblk:∀ (j:Id) m,¬ S j.base→M j=some m→0<m.cap→w'.heap[m.b]?=w.heap[m.b]?∧(A m.b→A' m.b))
  (hw:∀ b,b<w.heap.size→¬ A b→w'.heap[b]?=w.heap[b]?) (hs:w.heap.size≤w'.heap.size) (hA:∀ b,b<w.heap.size→A' b→A b) (hext:MExt M M')
  (hself:∀ (j:Id) m,S j.base→M' j=some m→∃ bx,getB H' j=some bx∧BoxAt w' A' M' B j m bx)
  (hinj:∀ (j:Id) m j' m',S j.base→M' j=some m→M' j'=some m'→0<m.cap→0<m'.cap→m.b=m'.b→j=j')
  (hlt:∀ b,A' b→b<w'.heap.size):HR w' A' M' B H':=by
 refine ⟨fun j m hm=>?_,fun j j' m m' h1 h2 c1 c2 he=>?_,hlt⟩
 · by_cases hj:S j.base
   · exact hself j m hj hm
   · rw [hM j hj] at hm
     obtain ⟨bx,g1,g2⟩:=hR.box j m hm
     refine ⟨bx,by rw [xcv (hH _ hj (xcH g1))];exact g1,g2.mono (fun h0=>(hblk j m hj hm h0).1) hw hs hA (fun h0=>?_) hext⟩
     rw [g2.guard h0]
     exact ⟨(hblk j m hj hm h0).2,hA _ (g2.lt h0)⟩
 · by_cases hj:S j.base
   · exact hinj j m j' m' hj h1 h2 c1 c2 he
   · by_cases hj':S j'.base
     · exact (hinj j' m' j m hj' h2 h1 c2 c1 he.symm).symm
     · rw [hM j hj] at h1;rw [hM j' hj'] at h2
       exact hR.inj j j' m m' h1 h2 c1 c2 he
theorem xdv {e v:AV} {j sz:Nat} (hj:j<sz) (hl:e.cells.length=sz) (hv:v.cells=[v]):(putCells e j 1 sz v).cells.length=sz∧∀ k,k<sz→(putCells e j 1 sz v).cells.getD k .top=if k=j then v else e.cells.getD k .top:=by
 unfold putCells
 split
 · rename_i hw
   obtain ⟨rfl,rfl⟩:=hw
   refine ⟨by rw [hv];rfl,fun k hk=>?_⟩
   have:k=0:=by omega
   subst this
   rw [if_pos rfl,hv];rfl
 · have hmin:min j e.cells.length=j:=by omega
   refine ⟨by rw [xb2,hv];simp;omega,fun k hk=>?_⟩
   simp only [xb2,hv,List.append_assoc,List.getD_eq_getElem?_getD,List.getElem?_append,List.length_take,hmin]
   by_cases hk1:k<j
   · simp [hk1,List.getElem?_take,show ¬ k=j by omega]
   · by_cases hk2:k=j
     · subst hk2;simp
     · simp only [hk1,if_false,List.length_cons,List.length_nil,show ¬ (k - j<1) by omega,hk2,List.getElem?_drop]
       congr 2
       omega
theorem xcR {e v:AV} {j sz:Nat} (hj:j<sz) (he:e.okElem sz=true) (hv:v.cells=[v]) (ho:v.one=true):(putCells e j 1 sz v).okElem sz=true:=by
 have hl:=xab he
 obtain ⟨h1,h2⟩:=xdv hj hl hv
 have h3:=xag he
 simp only [AV.okElem,h1,beq_self_eq_true,Bool.true_and]
 rw [List.all_eq_true] at h3 ⊢
 intro y hy
 obtain ⟨k,hk,rfl⟩:=xcr hy
 rw [h1] at hk
 rw [h2 k hk]
 split
 · exact ho
 · exact h3 _ (xad (by omega))
def setRowC (bx:Box) (ver i j:Nat) (v:AV):Box:=⟨ver,bx.sz,bx.ty,bx.xs.set i (putCells (bx.xs.getD i .top) j 1 bx.sz v),bx.frz,bx.pm⟩
theorem xfc {bx:Box} {ver i j:Nat} {v:AV} (hi:i<bx.xs.length) (hj:j<bx.sz) (hl:(bx.xs.getD i .top).cells.length=bx.sz) (hv:v.cells=[v]) {i' k:Nat} (hk:k<bx.sz) :
  ((setRowC bx ver i j v).xs.getD i' .top).cells.getD k .top=if i'=i∧k=j then v else (bx.xs.getD i' .top).cells.getD k .top:=by
 have hp:=xdv (e:=bx.xs.getD i .top) (v:=v) hj hl hv
 unfold setRowC
 by_cases hii:i'=i
 · subst hii
   have e1:(bx.xs.set i' (putCells (bx.xs.getD i' .top) j 1 bx.sz v)).getD i' .top=putCells (bx.xs.getD i' .top) j 1 bx.sz v:=by simp [List.getD_eq_getElem?_getD,hi]
   rw [e1,hp.2 k hk]
   simp
 · have e1:(bx.xs.set i (putCells (bx.xs.getD i .top) j 1 bx.sz v)).getD i' .top=bx.xs.getD i' .top:=by simp [List.getD_eq_getElem?_getD,List.getElem?_set,show ¬ i=i' from fun h=>hii h.symm]
   rw [e1,if_neg (fun h=>hii h.1)]
theorem HR.detach (hR:HR w A M B H) {n i j sz:Nat} {ys:List AV} {m:MB} {bx:Box} (hb:H[n]?=some bx) (hsl:isSlot bx.ty j=true) (hx:(bx.xs.getD i .top).cells.getD j .top=.list sz ys) (hj:j<bx.sz) (hel:(bx.xs.getD i .top).cells.length=bx.sz) (hm:M (.r n i j)=some m) :
  let M':Id→Option MB:=fun x=>if x=.b H.length then some ⟨m.b,0,m.sz,m.cap,m.ty⟩ else if x=.r n i j then some ⟨0,m.ver+1,0,0,m.ty⟩ else M x
  HR w A M' B (H.set n (setRowC bx bx.ver i j (.int .i64 ys.length))++[⟨0,sz,rowTy bx.ty,ys,bx.frz,true⟩])∧Mv w A M w A M'∧∀ v,Rel w A M v (rowRef n i j (.list sz ys))→Rel w A M' v (.osl H.length 0 0 ys.length):=by
 intro M'
 obtain ⟨rb,g1,g2⟩:=hR.box _ m hm
 have hCC:isC bx.ty=true:=xby hsl
 obtain ⟨g4,g5,g6,g7⟩:=xb9 hb hCC g1
 rw [hx] at g7
 subst g7
 have hver:2*ys.length=m.ver:=g2.ver
 have hsz:sz=m.sz:=g2.sz
 have hty:rowTy bx.ty=m.ty:=by have:=g2.ty;rw [xhL,xal (xaC _)] at this;exact this
 have hn:n<H.length:=xbj hb
 have hfree:=hR.free_of_length (n:=H.length) (Nat.le_refl _)
 have hnr:(Id.r n i j)≠.b H.length:=fun e=>by cases e
 have hM'n:M' (.b H.length)=some ⟨m.b,0,m.sz,m.cap,m.ty⟩:=by simp [M']
 have hM'r:M' (.r n i j)=some ⟨0,m.ver+1,0,0,m.ty⟩:=by simp [M']
 have hM'o:∀ x:Id,x≠.b H.length→x≠.r n i j→M' x=M x:=fun x h1 h2=>by simp [M',h1,h2]
 have hMlt:∀ x m0,M x=some m0→x≠.b H.length:=fun x m0 h e=>by rw [e,hfree.1] at h;cases h
 have hext:MExt M M':=fun x m0 h=>by
  by_cases hx':x=.r n i j
  · subst hx'
    rw [hm] at h;simp only [Option.some.injEq] at h;subst h
    exact ⟨_,hM'r,.inr (Nat.lt_succ_self _)⟩
  · exact ⟨m0,by rw [hM'o x (hMlt x m0 h) hx'];exact h,.inl rfl⟩
 have hsrc:∀ x m',M' x=some m'→0<m'.cap→∃ y m0,M y=some m0∧m0.b=m'.b∧m0.cap=m'.cap∧(x=.b H.length∧y=.r n i j∨x=y∧y≠.r n i j):=fun x m' h h0=>by
  by_cases h1:x=.b H.length
  · subst h1
    rw [hM'n] at h;simp only [Option.some.injEq] at h;subst h
    exact ⟨_,m,hm,rfl,rfl,.inl ⟨rfl,rfl⟩⟩
  · by_cases h2:x=.r n i j
    · subst h2
      rw [hM'r] at h;simp only [Option.some.injEq] at h;subst h
      exact absurd h0 (by simp)
    · rw [hM'o x h1 h2] at h
      exact ⟨x,m',h,rfl,rfl,.inr ⟨rfl,h2⟩⟩
 have hinj:∀ (x:Id) m1 x' m2,M' x=some m1→M' x'=some m2→0<m1.cap→0<m2.cap→m1.b=m2.b→x=x':=fun x m1 x' m2 h1 h2 c1 c2 he=>by
  obtain ⟨y,n1,a1,a2,a3,a4⟩:=hsrc x m1 h1 c1
  obtain ⟨y',n2,b1,b2,b3,b4⟩:=hsrc x' m2 h2 c2
  have:=hR.inj y y' n1 n2 a1 b1 (by omega) (by omega) (by rw [a2,b2,he])
  subst this
  rcases a4 with ⟨rfl,e1⟩|⟨rfl,e1⟩<;>rcases b4 with ⟨rfl,e2⟩|⟨rfl,e2⟩
  · rfl
  · exact absurd e1 e2
  · exact absurd e2 e1
  · rfl
 have hmono:∀ {v:Value} {x:AV},Rel w A M v x→Rel w A M' v x:=fun h=>h.mono (fun _ _ _=>rfl) (Nat.le_refl _) (fun _ _ h=>h) hext
 have hH1:(H.set n (setRowC bx bx.ver i j (.int .i64 ys.length))++[⟨0,sz,rowTy bx.ty,ys,bx.frz,true⟩])[n]?=some (setRowC bx bx.ver i j (.int .i64 ys.length)):=by
  rw [List.getElem?_append_left (by simpa using hn),List.getElem?_set_self hn]
 have hlen:(setRowC bx bx.ver i j (.int .i64 ys.length)).xs.length=bx.xs.length:=by simp [setRowC]
 have hcell:∀ i' k,k<bx.sz→((setRowC bx bx.ver i j (.int .i64 ys.length)).xs.getD i' .top).cells.getD k .top=if i'=i∧k=j then .int .i64 ys.length else (bx.xs.getD i' .top).cells.getD k .top:=fun i' k hk=>xfc g6 hj hel rfl hk
 have hslot:∀ k,isSlot bx.ty k=true→k=j:=fun k hk=>by
  have hc:=xby hk
  unfold isSlot at hk g4
  rw [hc] at hk g4
  rw [Nat.eq_of_beq_eq_true hk,Nat.eq_of_beq_eq_true g4]
 refine ⟨hR.rebuild (fun k=>k=n∨k=H.length) (fun k hk hlt=>?_) (fun x hx'=>hM'o x (fun e=>hx' (.inr (by rw [e];rfl))) fun e=>hx' (.inl (by rw [e];rfl))) (fun _ _ _ _ _=>⟨rfl,fun h=>h⟩) (fun _ _ _=>rfl) (Nat.le_refl _) (fun _ _ h=>h) hext (fun x m' hS hx'=>?_) (fun x m1 x' m2 _ h1 h2 c1 c2 he=>hinj x m1 x' m2 h1 h2 c1 c2 he) hR.lt,
  ⟨Nat.le_refl _,fun _ _ _=>rfl,fun _ _ h=>h,fun _ _ h _=>h,hext,⟨fun _ _ _=>rfl,fun x m' h h0=>?_⟩⟩,fun v hv=>?_⟩
 · rw [List.getElem?_append_left (by simpa using hlt),List.getElem?_set_ne (fun e=>hk (.inl e.symm))]
 · by_cases h1:x=.b H.length
   ·
    subst h1
    rw [hM'n] at hx';simp only [Option.some.injEq] at hx';subst hx'
    have hpl:isC (rowTy bx.ty)=false:=xaC _
    refine ⟨⟨0,sz,rowTy bx.ty,ys,bx.frz,true⟩,by rw [xaK,List.getElem?_append_right (by simp)];simp,rfl,hsz,by rw [xal hpl];exact hty,g2.capm,g2.fits,g2.ok,g2.low,g2.lt,fun h0=>?_,fun h0=>g2.guard h0⟩
    obtain ⟨c,c1,c2,c3⟩:=g2.cells h0
    refine ⟨c,c1,c2,fun i' j' hi' hj'=>?_⟩
    have h4:=c3 i' j' hi' hj'
    rw [xai (t:=(rowBox bx (.list sz ys)).ty) (xaC _),xau (bx:=rowBox bx (.list sz ys)) (xaC _)] at h4
    rw [xai hpl,xau hpl]
    exact h4
   · by_cases h2:x=.r n i j
     ·
      subst h2
      rw [hM'r] at hx';simp only [Option.some.injEq] at hx';subst hx'
      have hbn:∃ rb,getB (H.set n (setRowC bx bx.ver i j (.int .i64 ys.length))++[⟨0,sz,rowTy bx.ty,ys,bx.frz,true⟩]) (.r n i j)=some rb∧rb=⟨2*ys.length+1,0,rowTy bx.ty,[],bx.frz,true⟩:=by
       refine ⟨_,?_,rfl⟩
       rw [xbw hH1 hCC g4 g5 (by rw [hlen];exact g6),hcell i j hj,if_pos ⟨rfl,rfl⟩]
       simp [rowBox,rowLen,setRowC]
      obtain ⟨rb,r1,rfl⟩:=hbn
      have hc:∀ {p:Prop},0<(0:Nat)→p:=fun h=>absurd h (by simp)
      exact ⟨_,r1,by simp only;omega,rfl,by rw [xal (xaC _)];exact hty,Nat.zero_le _,Nat.zero_le _,fun x hx=>by simp at hx,hc,hc,hc,hc⟩
     · have hxn:x.base=n:=by
        rcases hS with h|h
        · exact h
        · rw [hM'o x h1 h2] at hx'
          rw [hR.none_of_base (by rw [h];exact Nat.le_refl _)] at hx';cases hx'
       rw [hM'o x h1 h2] at hx'
       obtain ⟨bx',k1,k2⟩:=hR.box x m' hx'
       cases x with
       | r n' i' j' =>
        simp only [Id.base] at hxn
        subst hxn
        have k3:getB (H.set n' (setRowC bx bx.ver i j (.int .i64 ys.length))++[⟨0,sz,rowTy bx.ty,ys,bx.frz,true⟩]) (.r n' i' j')=some bx':=by
         obtain ⟨e2,e3,e4,e5⟩:=xb9 hb hCC k1
         have hjj:=hslot j' e2
         subst hjj
         have hii:i'≠i:=fun e=>h2 (by rw [e])
         rw [xbw hH1 hCC e2 e3 (by rw [hlen];exact e4),hcell i' j' hj,if_neg (fun e=>hii e.1),e5]
         rfl
        exact ⟨bx',k3,k2.mono (fun _=>rfl) (fun _ _ _=>rfl) (Nat.le_refl _) (fun _ _ h=>h) k2.guard hext⟩
       | b n' =>
        simp only [Id.base] at hxn
        subst hxn
        rw [xaK,hb] at k1
        simp only [Option.some.injEq] at k1
        subst k1
        have k4:=k2.mono (w':=w) (fun _=>rfl) (fun _ _ _=>rfl) (Nat.le_refl _) (fun _ _ h=>h) k2.guard hext
        refine ⟨_,hH1,k4.ver,k4.sz,k4.ty,k4.capm,by rw [hlen];exact k4.fits,fun y hy=>?_,k4.low,k4.lt,fun h0=>?_,k4.guard⟩
        · rcases List.mem_or_eq_of_mem_set hy with hy|rfl
          · exact k4.ok y hy
          · rw [←k4.sz]
            exact xcR hj (by rw [k4.sz];exact k4.ok _ (xad g6)) rfl rfl
        · obtain ⟨c,c1,c2,c3⟩:=k4.cells h0
          refine ⟨c,by rw [hlen];exact c1,c2,fun i' k hi' hk=>?_⟩
          rw [hlen] at hi'
          have h4:=c3 i' k hi' hk
          have hmv:MV M' (setRowC bx bx.ver i j (.int .i64 ys.length)) k=MV M' bx k:=rfl
          have hvw:viewC n' i' k (setRowC bx bx.ver i j (.int .i64 ys.length)).ty (((setRowC bx bx.ver i j (.int .i64 ys.length)).xs.getD i' .top).cells.getD k .top)=viewC n' i' k bx.ty ((bx.xs.getD i' .top).cells.getD k .top):=by
           rw [hcell i' k (by rw [k4.sz];exact hk)]
           split
           · rename_i hik
             obtain ⟨rfl,rfl⟩:=hik
             show viewC n' i' k bx.ty _=_
             unfold viewC
             rw [g4,hx]
             rfl
           · rfl
          simp only [Id.base]
          rw [hmv,hvw]
          exact h4
 · obtain ⟨y,m0,a1,a2,a3,_⟩:=hsrc x m' h h0
   exact .inl ⟨y,m0,a1,by omega,a2.symm⟩
 · obtain ⟨m1,b1,b2,b3,b4⟩:=Rel.osl_inv hv
   rw [hm] at b1
   simp only [Option.some.injEq] at b1
   subst b1
   obtain ⟨e1,a,e2,e3⟩:=b4 hver
   exact .osl v (.b H.length) 0 0 ys.length _ hM'n (Nat.le_refl _) b3 fun _=>⟨e1,a,e2,e3⟩
def deadLen:AV→Option Nat
 | .int _ l=>some l.toNat
 | _=>none
def absAdopt (P:Program) (H:List Box) (t:TypeId) (a v:AV):Option (List Box) :=
 match tinfo P t,a,v with
 | some ti,.own (.b n) ver i j,.osl (.b id) ver2 off len=>match getBox H (.b n) ver,getBox H (.b id) ver2 with
  | some bx,some b2=>match deadLen ((bx.xs.getD i .top).cells.getD j .top) with
   | some l0=>if ti.sz=1∧bx.frz=false∧isSlot bx.ty j=true∧bx.pm=true∧j<bx.sz∧i<bx.xs.length∧(bx.xs.getD i .top).cells.length=bx.sz ∧
     b2.frz=false∧b2.pm=true∧isC b2.ty=false∧b2.ty=rowTy bx.ty∧off=0∧len=b2.xs.length∧l0<len then
    some ((H.set id ⟨ver2+1,b2.sz,b2.ty,[],false,true⟩).set n (setRowC bx ver i j (.list b2.sz b2.xs))) else none
   | none=>none
  | _,_=>none
 | _,_,_=>none
theorem xiH (hR:HR w A M B H) {o:Oper} {ρc:Operand→Value} {t:TypeId} {oa ov:Operand} {xa xv:AV} {H':List Box} (ho:o.op=.store t oa ov) (ha:Rel w A M (ρc oa) xa) (hv:Rel w A M (ρc ov) xv) (h:absAdopt P H t xa xv=some H') :
  Writes P o ρc w A M B (.tuple []) H':=by
 unfold absAdopt at h
 split at h
 case h_2=>simp at h
 rename_i ti n ver i j id ver2 off len hti
 split at h
 case h_2=>simp at h
 rename_i bx b2 hbx hb2x
 split at h
 case h_2=>simp at h
 rename_i l0 hdead
 split at h
 case isFalse=>simp at h
 rename_i hc0
 obtain ⟨hts,hfz,hsl,hpm,hjs,hi,hel,hfz2,hpm2,hpl2,hty2,rfl,rfl,hl0⟩:=hc0
 simp only [Option.some.injEq] at h;subst h
 obtain ⟨m,hm,hbat,hpa⟩:=xcV hR ha hbx
 obtain ⟨m2,a2,hm2,hbat2,hfit2,hsv,ha2⟩:=xb6 hR hv hb2x
 obtain ⟨hb1,hb1v⟩:=xaf hbx
 obtain ⟨hb2,hb2v⟩:=xaf hb2x
 rw [xaK] at hb1 hb2
 have hne:id≠n:=fun e=>by
  subst e
  rw [hb1] at hb2
  simp only [Option.some.injEq] at hb2
  subst hb2
  have:=xby hsl
  rw [hpl2] at this;cases this
 have hcap0:0<m.cap:=by have:=hbat.fits;omega
 obtain ⟨c,h1,h2,h3⟩:=hbat.cells hcap0
 have hnm:isMapT m.ty=false:=hbat.nomap (xaA hbx)
 replace h1:=h1.plain hnm
 have hsz:=hbat.sz
 have hjm:j<m.sz:=by omega
 have hv1:(ρc ov).cells=#[ρc ov]:=by rw [hsv];rfl
 have hvs:(ρc ov).cells.size=1:=by rw [hv1];rfl
 have hfitI:i*m.sz+m.sz≤c.size:=by
  rw [h2]
  have:(i+1)*m.sz≤m.cap*m.sz:=Nat.mul_le_mul_right _ (Nat.le_trans hi hbat.fits)
  rw [Nat.add_mul,Nat.one_mul] at this
  exact this
 have hoff:i*m.sz+j+(ρc ov).cells.toList.length≤c.toList.length:=by simp [hvs];omega
 have hst:=run_storeCells_at P m.b (i*m.sz+j) m.ty (ρc ov).cells.toList 0 c w h1 (by simp [hvs];omega) (fun u hu=>by
  rw [hv1] at hu
  simp only [List.mem_singleton] at hu
  subst hu;rw [hsv];rfl)
 simp only [Nat.add_zero] at hst
 have hAm:A m.b:=(hbat.guard hcap0).1 hfz
 generalize hc':(splice c.toList (i*m.sz+j) (ρc ov).cells.toList).toArray=c' at hst
 have hcs:c'.size=m.cap*m.sz:=by rw [←hc'];have:=xbV hoff;simp at this ⊢;omega
 have hcg:∀ k,c'.getD k undef=if k=i*m.sz+j then ρc ov else c.getD k undef:=fun k=>by
  rw [←hc',xbi,xbK hoff,hv1]
  by_cases hk:k=i*m.sz+j
  · subst hk;simp
  · rw [if_neg (by simp;omega),if_neg hk,xas]
 have hs:(w.setRow m.b c').heap.size=w.heap.size:=by simp [World.setRow]
 have hw:∀ b,b<w.heap.size→¬ A b→(w.setRow m.b c').heap[b]?=w.heap[b]?:=fun b _ hb=>setRow_other w m.b b c' fun e=>hb (e▸hAm)
 let M':Id→Option MB:=fun x=>if x=.b id then some ⟨m2.b,m2.ver+1,m2.sz,0,m2.ty⟩ else if x=.r n i j then some ⟨m2.b,2*b2.xs.length,m2.sz,m2.cap,m2.ty⟩ else M x
 have hM'b:M' (.b id)=some ⟨m2.b,m2.ver+1,m2.sz,0,m2.ty⟩:=by simp [M']
 have hM'r:M' (.r n i j)=some ⟨m2.b,2*b2.xs.length,m2.sz,m2.cap,m2.ty⟩:=by simp [M']
 have hM'o:∀ x:Id,x≠.b id→x≠.r n i j→M' x=M x:=fun x h1 h2=>by simp [M',h1,h2]
 have hold:∀ m0,M (.r n i j)=some m0→m0.cap=0∧m0.ver<2*b2.xs.length→m0.ver<2*b2.xs.length:=fun _ _ h=>h.2
 have hrow:∀ m0,M (.r n i j)=some m0→m0.ver<2*b2.xs.length:=fun m0 h0=>by
  obtain ⟨rb,k1,k2⟩:=hR.box _ m0 h0
  obtain ⟨k4,k5,k6,k7⟩:=xb9 hb1 (xby hsl) k1
  have k8:=k2.ver
  rw [k7] at k8
  unfold deadLen at hdead
  split at hdead
  · rename_i kk l hl
    simp only [Option.some.injEq] at hdead
    rw [hl] at k8
    simp only [rowBox,rowLen] at k8
    omega
  · simp at hdead
 have hext:MExt M M':=fun x m0 h0=>by
  by_cases e1:x=.b id
  · subst e1
    rw [hm2] at h0;simp only [Option.some.injEq] at h0;subst h0
    exact ⟨_,hM'b,.inr (Nat.lt_succ_self _)⟩
  · by_cases e2:x=.r n i j
    · subst e2
      exact ⟨_,hM'r,.inr (hrow m0 h0)⟩
    · exact ⟨m0,by rw [hM'o x e1 e2];exact h0,.inl rfl⟩
 have hsrc:∀ x m',M' x=some m'→0<m'.cap→∃ y m0,M y=some m0∧m0.b=m'.b∧m0.cap=m'.cap∧(x=.r n i j∧y=.b id∨x=y∧y≠.b id∧y≠.r n i j):=fun x m' h h0=>by
  by_cases e1:x=.b id
  · subst e1
    rw [hM'b] at h;simp only [Option.some.injEq] at h;subst h
    exact absurd h0 (by simp)
  · by_cases e2:x=.r n i j
    · subst e2
      rw [hM'r] at h;simp only [Option.some.injEq] at h;subst h
      exact ⟨_,m2,hm2,rfl,rfl,.inl ⟨rfl,rfl⟩⟩
    · rw [hM'o x e1 e2] at h
      exact ⟨x,m',h,rfl,rfl,.inr ⟨rfl,e1,e2⟩⟩
 have hinj:∀ (x:Id) m1 x' m2,M' x=some m1→M' x'=some m2→0<m1.cap→0<m2.cap→m1.b=m2.b→x=x':=fun x m1 x' m2 h1 h2 c1 c2 he=>by
  obtain ⟨y,n1,a1,a2,a3,a4⟩:=hsrc x m1 h1 c1
  obtain ⟨y',n2,b1,b2,b3,b4⟩:=hsrc x' m2 h2 c2
  have:=hR.inj y y' n1 n2 a1 b1 (by omega) (by omega) (by rw [a2,b2,he])
  subst this
  rcases a4 with ⟨rfl,e1⟩|⟨rfl,e1,_⟩<;>rcases b4 with ⟨rfl,e2⟩|⟨rfl,e2,_⟩
  · rfl
  · exact absurd e1 e2
  · exact absurd e2 e1
  · rfl
 have hblk:∀ (x:Id) m0,x≠.b n→M x=some m0→0<m0.cap→(w.setRow m.b c').heap[m0.b]?=w.heap[m0.b]?:=fun x m0 hx h0 c0=>setRow_other w m.b m0.b c' fun e=>hx (hR.inj x (.b n) m0 m h0 hm c0 hcap0 e)
 have hn:n<H.length:=xbj hb1
 have hid:id<H.length:=xbj hb2
 have hH1:((H.set id ⟨ver2+1,b2.sz,b2.ty,[],false,true⟩).set n (setRowC bx ver i j (.list b2.sz b2.xs)))[n]?=some (setRowC bx ver i j (.list b2.sz b2.xs)):=List.getElem?_set_self (by simpa using hn)
 have hH2:((H.set id ⟨ver2+1,b2.sz,b2.ty,[],false,true⟩).set n (setRowC bx ver i j (.list b2.sz b2.xs)))[id]?=some ⟨ver2+1,b2.sz,b2.ty,[],false,true⟩:=by
  rw [List.getElem?_set_ne (Ne.symm hne),List.getElem?_set_self hid]
 have hlen:(setRowC bx ver i j (.list b2.sz b2.xs)).xs.length=bx.xs.length:=by simp [setRowC]
 have hcell:∀ i' k,k<bx.sz→((setRowC bx ver i j (.list b2.sz b2.xs)).xs.getD i' .top).cells.getD k .top=if i'=i∧k=j then .list b2.sz b2.xs else (bx.xs.getD i' .top).cells.getD k .top:=fun i' k hk=>xfc hi hjs hel rfl hk
 have hslot:∀ k,isSlot bx.ty k=true→k=j:=fun k hk=>by
  have hc:=xby hk
  unfold isSlot at hk hsl
  rw [hc] at hk hsl
  rw [Nat.eq_of_beq_eq_true hk,Nat.eq_of_beq_eq_true hsl]
 have hR':HR (w.setRow m.b c') A M' B ((H.set id ⟨ver2+1,b2.sz,b2.ty,[],false,true⟩).set n (setRowC bx ver i j (.list b2.sz b2.xs))):=by
  refine hR.rebuild (fun k=>k=n∨k=id) (fun k hk hlt=>?_) (fun x hx'=>hM'o x (fun e=>hx' (.inr (by rw [e];rfl))) fun e=>hx' (.inl (by rw [e];rfl))) (fun x m0 hx' h0 c0=>⟨hblk x m0 (fun e=>hx' (.inl (by rw [e];rfl))) h0 c0,fun h=>h⟩) hw (by rw [hs];exact Nat.le_refl _) (fun _ _ h=>h) hext (fun x m' hS hx'=>?_) (fun x m1 x' m2 _ h1 h2 c1 c2 he=>hinj x m1 x' m2 h1 h2 c1 c2 he) (fun b hb=>by rw [hs];exact hR.lt b hb)
  · rw [List.getElem?_set_ne (fun e=>hk (.inl e.symm)),List.getElem?_set_ne (fun e=>hk (.inr e.symm))]
  · by_cases e1:x=.b id
    ·
     subst e1
     rw [hM'b] at hx';simp only [Option.some.injEq] at hx';subst hx'
     have hc:∀ {p:Prop},0<(0:Nat)→p:=fun h=>absurd h (by simp)
     exact ⟨(⟨ver2+1,b2.sz,b2.ty,[],false,true⟩:Box),hH2,by simp only;rw [←hbat2.ver,hb2v],hbat2.sz,hbat2.ty,Nat.zero_le _,Nat.zero_le _,fun x hx=>by simp at hx,hc,hc,hc,hc⟩
    · by_cases e2:x=.r n i j
      ·
       subst e2
       rw [hM'r] at hx';simp only [Option.some.injEq] at hx';subst hx'
       have hrb:getB ((H.set id ⟨ver2+1,b2.sz,b2.ty,[],false,true⟩).set n (setRowC bx ver i j (.list b2.sz b2.xs))) (.r n i j)=some ⟨2*b2.xs.length,b2.sz,rowTy bx.ty,b2.xs,bx.frz,true⟩:=by
        rw [xbw hH1 (xby hsl) hsl hpm (by rw [hlen];exact hi),hcell i j hjs,if_pos ⟨rfl,rfl⟩]
        rfl
       have k4:=hbat2.mono (w':=w.setRow m.b c') (A':=A) (M':=M') (fun h0=>hblk (.b id) m2 (fun e=>hne (by injection e)) hm2 h0) hw (by rw [hs];exact Nat.le_refl _) (fun _ _ h=>h) hbat2.guard hext
       refine ⟨_,hrb,rfl,k4.sz,by rw [←hty2];exact k4.ty,k4.capm,k4.fits,k4.ok,k4.low,k4.lt,fun h0=>?_,fun h0=>?_⟩
       · obtain ⟨cc,c1,c2,c3⟩:=k4.cells h0
         refine ⟨cc,c1,c2,fun i' k hi' hk=>?_⟩
         have h4:=c3 i' k hi' hk
         rw [xai hpl2,xau hpl2,hpm2] at h4
         rw [xai (xaC _),xau (bx:=⟨2*b2.xs.length,b2.sz,rowTy bx.ty,b2.xs,bx.frz,true⟩) (xaC _)]
         exact h4
       · have:=k4.guard h0
         rw [hfz2] at this
         rw [hfz];exact this
      · by_cases hxid:x.base=id
        ·
         rw [hM'o x e1 e2] at hx'
         obtain ⟨bx',k1,k2⟩:=hR.box x m' hx'
         cases x with
         | b k=>exact absurd (by rw [←hxid];rfl) e1
         | r k i' j' =>
          simp only [Id.base] at hxid
          subst hxid
          rw [xbG hb2 hpl2] at k1
          simp only [Option.some.injEq] at k1
          subst k1
          exact ⟨tombB,xbG hH2 hpl2,k2.mono (fun h0=>hblk _ m' (fun e=>by cases e) hx' h0) hw (by rw [hs];exact Nat.le_refl _) (fun _ _ h=>h) k2.guard hext⟩
        have hxn:x.base=n:=by
         rcases hS with h|h
         · exact h
         · exact absurd h hxid
        rw [hM'o x e1 e2] at hx'
        obtain ⟨bx',k1,k2⟩:=hR.box x m' hx'
        cases x with
        | r n' i' j' =>
         simp only [Id.base] at hxn
         subst hxn
         have k3:getB ((H.set id ⟨ver2+1,b2.sz,b2.ty,[],false,true⟩).set n' (setRowC bx ver i j (.list b2.sz b2.xs))) (.r n' i' j')=some bx':=by
          obtain ⟨e2',e3,e4,e5⟩:=xb9 hb1 (xby hsl) k1
          have hjj:=hslot j' e2'
          subst hjj
          have hii:i'≠i:=fun e=>e2 (by rw [e])
          rw [xbw hH1 (xby hsl) e2' e3 (by rw [hlen];exact e4),hcell i' j' hjs,if_neg (fun e=>hii e.1),e5]
          rfl
         exact ⟨bx',k3,k2.mono (fun h0=>hblk _ m' (fun e=>by cases e) hx' h0) hw (by rw [hs];exact Nat.le_refl _) (fun _ _ h=>h) k2.guard hext⟩
        | b n' =>
         simp only [Id.base] at hxn
         subst hxn
         rw [hm] at hx'
         simp only [Option.some.injEq] at hx'
         subst hx'
         refine ⟨setRowC bx ver i j (.list b2.sz b2.xs),hH1,by rw [←hbat.ver,hb1v];rfl,hbat.sz,hbat.ty,hbat.capm,by rw [hlen];exact hbat.fits,fun y hy=>?_,hbat.low,fun h0=>by rw [hs];exact hbat.lt h0,fun h0=>?_,hbat.guard⟩
         · rcases List.mem_or_eq_of_mem_set hy with hy|rfl
           · exact hbat.ok y hy
           · rw [←hbat.sz]
             exact xcR hjs (by rw [hbat.sz];exact hbat.ok _ (xad hi)) rfl rfl
         · refine ⟨c',.of hnm (setRow_heap w m.b c c' m.ty (0,0) h1),hcs,fun i' k hi' hk=>?_⟩
           rw [hlen] at hi'
           have hmv:MV M' (setRowC bx ver i j (.list b2.sz b2.xs)) k=MV M' bx k:=rfl
           show Rel _ _ (MV M' (setRowC bx ver i j (.list b2.sz b2.xs)) k) _ (viewC n' i' k bx.ty _)
           rw [hmv,hcell i' k (by omega),hcg]
           by_cases hik:i'=i∧k=j
           · obtain ⟨rfl,rfl⟩:=hik
             rw [if_pos rfl,if_pos ⟨rfl,rfl⟩]
             unfold MV viewC
             rw [hsl]
             obtain ⟨m3,q1,q2,q3,q4⟩:=Rel.osl_inv hv
             rw [hm2] at q1;simp only [Option.some.injEq] at q1;subst q1
             obtain ⟨q5,a,q6,q7⟩:=q4 (by rw [←hb2v,hbat2.ver])
             exact .osl _ (.r n' i' k) _ _ _ _ hM'r (Nat.le_refl _) q3 fun _=>⟨q5,a,q6,q7⟩
           · rw [if_neg hik,if_neg (fun e=>hik (xl1 hk hjm e))]
             exact (h3 i' k hi' hk).mono hw (by rw [hs];exact Nat.le_refl _) (fun _ _ h=>h) (xg0 hext bx k)
 refine ⟨.skip,w.setRow m.b c',A,M',undef,?_,.inr ⟨rfl,rfl⟩,⟨rfl,rfl,rfl,by rw [hs];exact Nat.le_refl _,fun k hk=>setRow_other w m.b k c' fun e=>by have:=hbat.low hcap0;omega⟩,hext,fun _ _=>Iff.rfl,hw,⟨fun b _ hb=>setRow_other w m.b b c' fun e=>hb (.b n) m hm hcap0 e.symm,fun x m' h h0=>?_⟩,hR',.tuple #[] [] rfl (by simp)⟩
 · simp only [execOp,ho,hpa,Instr.storeAt,Instr.sureAddr,storeVar,Sem.run_bind,Sem.run_pure,Result.andThen_ok,xaX hti,hts,hvs,ne_eq,not_true,if_false]
   rw [hst,←hc']
   rfl
 · obtain ⟨y,m0,a1,a2,a3,_⟩:=hsrc x m' h h0
   exact .inl ⟨y,m0,a1,by omega,a2.symm⟩
def newRow (t:TypeId) (sz:Nat) (y:AV):AV:=putCells y (slotOf t) 1 sz (.list (rowSz t) [])
theorem xcQ {t:TypeId} {sz:Nat} {y:AV} (hs:slotOf t<sz) (hy:y.okElem sz=true) {k:Nat} (hk:k<sz):(newRow t sz y).cells.getD k .top=if k=slotOf t then .list (rowSz t) [] else y.cells.getD k .top :=
 (xdv hs (xab hy) rfl).2 k hk
theorem xfl {t:TypeId} {k:Nat}:isSlot t k=true→k=slotOf t:=fun h=>by
 have hc:=xby h
 unfold isSlot at h
 rw [hc] at h
 exact Nat.eq_of_beq_eq_true h
theorem HR.grown (hR:HR w A M B H) {n:Nat} {m m':MB} {bx:Box} {w':World} {A':Nat→Prop} {c':Array Value} {ys:List AV}
  (hm:M (.b n)=some m) (hb:H[n]?=some bx) (hbat:BoxAt w A M B (.b n) m bx) (hfz:bx.frz=false) (hC:isC bx.ty=true) (hnm:isMapT m.ty=false) (hpm:bx.pm=true) (hss:slotOf bx.ty<m.sz)
  (hw:∀ b,b<w.heap.size→¬ A b→w'.heap[b]?=w.heap[b]?) (hs:w.heap.size≤w'.heap.size) (hA:∀ b,b<w.heap.size→A' b→A b)
  (hblk:∀ x m0,x≠.b n→M x=some m0→0<m0.cap→w'.heap[m0.b]?=w.heap[m0.b]?∧(A m0.b→A' m0.b))
  (e1:m'.ver=m.ver+1) (e2:m'.sz=m.sz) (e3:m'.ty=m.ty) (hcap:bx.xs.length+ys.length≤m'.cap) (hcm:m'.cap≤maxLen) (hlow:B≤m'.b) (hlt:m'.b<w'.heap.size) (hA':A' m'.b)
  (hc:w'.heap[m'.b]?=some (.cells c' m'.ty (0,0))) (hcs:c'.size=m'.cap*m.sz) (hnb:m'.b=m.b∧0<m.cap∨w.heap.size≤m'.b)
  (hold:∀ i j,i<bx.xs.length→j<m.sz→Rel w A (MV M bx j) (c'.getD (i*m.sz+j) undef) (viewC n i j bx.ty ((bx.xs.getD i .top).cells.getD j .top)))
  (hnew:∀ i j,i<ys.length→j<m.sz→Rel w A noBox (c'.getD ((bx.xs.length+i)*m.sz+j) undef) ((ys.getD i .top).cells.getD j .top))
  (hok:∀ y,y∈ys→y.okElem m.sz=true) (hnil:∀ y,y∈ys→y.cells.getD (slotOf bx.ty) .top=.nils) (hlt':∀ b,A' b→b<w'.heap.size) :
  ∃ M',HR w' A' M' B (H.set n ⟨bx.ver+1,bx.sz,bx.ty,bx.xs++ys.map (newRow bx.ty bx.sz),false,true⟩)∧MExt M M'∧M' (.b n)=some m'∧∀ x m0,M' x=some m0→0<m0.cap→x=.b n∧m0=m'∨M x=some m0∧x≠.b n:=by
 have hn:n<H.length:=xbj hb
 let M':Id→Option MB:=fun x=>if x=.b n then some m' else match x with
  | .b _=>M x
  | .r k i j=>if k=n∧bx.xs.length≤i∧i<bx.xs.length+ys.length∧j=slotOf bx.ty then some ⟨0,0,rowSz bx.ty,0,rowTy bx.ty⟩ else M x
 have hM'n:M' (.b n)=some m':=by simp [M']
 have hM'r:∀ i,bx.xs.length≤i→i<bx.xs.length+ys.length→M' (.r n i (slotOf bx.ty))=some ⟨0,0,rowSz bx.ty,0,rowTy bx.ty⟩:=fun i h1 h2=>by simp [M',h1,h2]
 have hM'o:∀ x:Id,x≠.b n→(∀ i,bx.xs.length≤i→i<bx.xs.length+ys.length→x≠.r n i (slotOf bx.ty))→M' x=M x:=fun x h1 h2=>by
  cases x with
  | b k=>simp [M',h1]
  | r k i j =>
   have:¬ (k=n∧bx.xs.length≤i∧i<bx.xs.length+ys.length∧j=slotOf bx.ty):=fun ⟨a1,a2,a3,a4⟩=>h2 i a2 a3 (by rw [a1,a4])
   simp [M',this]
 have hnone:∀ i j,bx.xs.length≤i→M (.r n i j)=none:=fun i j hi=>by
  cases h:M (.r n i j) with
  | none=>rfl
  | some m0 =>
   obtain ⟨rb,k1,_⟩:=hR.box _ m0 h
   obtain ⟨_,_,k3,_⟩:=xb9 hb hC k1
   omega
 have hext:MExt M M':=fun x m0 h0=>by
  by_cases h1:x=.b n
  · subst h1
    rw [hm] at h0;simp only [Option.some.injEq] at h0;subst h0
    exact ⟨m',hM'n,.inr (by omega)⟩
  · exact ⟨m0,by rw [hM'o x h1 fun i hi _ e=>by subst e;rw [hnone i _ hi] at h0;cases h0];exact h0,.inl rfl⟩
 have hcase:∀ x m0,M' x=some m0→x=.b n∧m0=m'∨(∃ i,bx.xs.length≤i∧i<bx.xs.length+ys.length∧x=.r n i (slotOf bx.ty)∧m0=⟨0,0,rowSz bx.ty,0,rowTy bx.ty⟩)∨(M x=some m0∧x≠.b n):=fun x m0 h=>by
  by_cases h1:x=.b n
  · subst h1
    rw [hM'n] at h;simp only [Option.some.injEq] at h
    exact .inl ⟨rfl,h.symm⟩
  · by_cases h2:∃ i,bx.xs.length≤i∧i<bx.xs.length+ys.length∧x=.r n i (slotOf bx.ty)
    · obtain ⟨i,a1,a2,rfl⟩:=h2
      rw [hM'r i a1 a2] at h;simp only [Option.some.injEq] at h
      exact .inr (.inl ⟨i,a1,a2,rfl,h.symm⟩)
    · rw [hM'o x h1 fun i a1 a2 e=>h2 ⟨i,a1,a2,e⟩] at h
      exact .inr (.inr ⟨h,h1⟩)
 have hcase0:∀ x m0,M' x=some m0→0<m0.cap→x=.b n∧m0=m'∨M x=some m0∧x≠.b n:=fun x m0 h h0=>by
  rcases hcase x m0 h with h|⟨i,_,_,_,rfl⟩|h
  · exact .inl h
  · exact absurd h0 (by simp)
  · exact .inr h
 have mix:∀ x m0,M x=some m0→x≠.b n→0<m0.cap→m0.b≠m'.b:=fun x m0 h hx h0 e=>by
  rcases hnb with ⟨h1,h2⟩|h1
  · exact hx (hR.inj x (.b n) m0 m h hm h0 h2 (by rw [e,h1]))
  · obtain ⟨bx0,_,k2⟩:=hR.box x m0 h
    have:=k2.lt h0
    omega
 have hlen:(bx.xs++ys.map (newRow bx.ty bx.sz)).length=bx.xs.length+ys.length:=by simp
 have hH1:(H.set n ⟨bx.ver+1,bx.sz,bx.ty,bx.xs++ys.map (newRow bx.ty bx.sz),false,true⟩)[n]?=some ⟨bx.ver+1,bx.sz,bx.ty,bx.xs++ys.map (newRow bx.ty bx.sz),false,true⟩:=List.getElem?_set_self hn
 have hsz:=hbat.sz
 have hg1:∀ i,i<bx.xs.length→(bx.xs++ys.map (newRow bx.ty bx.sz)).getD i .top=bx.xs.getD i .top:=fun i hi=>by simp [List.getD_eq_getElem?_getD,List.getElem?_append,hi]
 have hg2:∀ i,i<ys.length→(bx.xs++ys.map (newRow bx.ty bx.sz)).getD (bx.xs.length+i) .top=newRow bx.ty bx.sz (ys.getD i .top):=fun i hi=>by
  simp [List.getD_eq_getElem?_getD,List.getElem?_append,hi]
 have hslot0:isSlot bx.ty (slotOf bx.ty)=true:=by unfold isSlot;rw [hC];exact Nat.beq_refl _
 refine ⟨M',hR.rebuild (fun k=>k=n) (fun k hk _=>List.getElem?_set_ne (fun e=>hk e.symm)) (fun x hx=>hM'o x (fun e=>hx (by rw [e];rfl)) fun i _ _ e=>hx (by rw [e];rfl)) (fun x m0 hx h0 c0=>hblk x m0 (fun e=>hx (by rw [e];rfl)) h0 c0) hw hs hA hext (fun x m0 hx hx'=>?_) (fun x m1 x' m2 _ h1 h2 c1 c2 he=>?_) hlt',hext,hM'n,hcase0⟩
 · rcases hcase x m0 hx' with ⟨rfl,rfl⟩|⟨i,a1,a2,rfl,rfl⟩|⟨h0,hne⟩
   ·
    refine ⟨_,hH1,by simp only;rw [hbat.ver,e1],by rw [e2];exact hsz,by rw [e3];exact hbat.ty,hcm,by rw [hlen];exact hcap,fun y hy=>?_,fun _=>hlow,fun _=>hlt,fun _=>⟨c',.of (by rw [e3];exact hnm) hc,by rw [e2];exact hcs,fun i j hi hj=>?_⟩,fun _=>⟨fun _=>hA',fun _=>rfl⟩⟩
    · rw [e2]
      rcases List.mem_append.1 hy with hy|hy
      · exact hbat.ok y hy
      · obtain ⟨y0,hy0,rfl⟩:=List.mem_map.1 hy
        rw [hsz]
        exact xcR hss (hok y0 hy0) rfl rfl
    · rw [e2] at hj ⊢
      rw [hlen] at hi
      have hmv:MV M' (⟨bx.ver+1,bx.sz,bx.ty,bx.xs++ys.map (newRow bx.ty bx.sz),false,true⟩:Box) j=MV M' bx j:=by unfold MV;rw [hpm]
      show Rel _ _ (MV M' _ j) _ (viewC n i j bx.ty _)
      rw [hmv]
      by_cases hix:i<bx.xs.length
      · rw [hg1 i hix]
        exact (hold i j hix hj).mono hw hs hA (xg0 hext bx j)
      · obtain ⟨i0,rfl⟩:∃ i0,i=bx.xs.length+i0:=⟨i - bx.xs.length,by omega⟩
        have hi0:i0<ys.length:=by omega
        have h4:=hnew i0 j hi0 hj
        have hmem:=xad hi0
        rw [hg2 i0 hi0,xcQ (by rw [hsz];exact hss) (by rw [hsz];exact hok _ hmem) (by rw [hsz];exact hj)]
        by_cases hjs:j=slotOf bx.ty
        · subst hjs
          rw [if_pos rfl]
          rw [hnil _ hmem] at h4
          have hv:c'.getD ((bx.xs.length+i0)*m.sz+slotOf bx.ty) undef=.slice none 0 0:=by
           generalize c'.getD ((bx.xs.length+i0)*m.sz+slotOf bx.ty) undef=u at h4
           cases h4;rfl
          unfold MV viewC
          rw [hslot0,hv]
          exact .osl _ (.r n _ _) _ _ _ _ (hM'r _ (Nat.le_add_right _ _) (by omega)) (Nat.le_refl _) rfl fun _=>⟨Nat.le_refl _,none,rfl,fun h=>absurd h (by simp)⟩
        · have hsl:isSlot bx.ty j=false:=by
           cases hq:isSlot bx.ty j with
           | false=>rfl
           | true=>exact absurd (xfl hq) hjs
          rw [if_neg hjs]
          unfold MV viewC
          rw [hsl,hpm]
          exact h4.mono hw hs hA (MExt.refl _)
   ·
    obtain ⟨i0,rfl⟩:∃ i0,i=bx.xs.length+i0:=⟨i - bx.xs.length,by omega⟩
    have hi0:i0<ys.length:=by omega
    have hc0:∀ {p:Prop},0<(0:Nat)→p:=fun h=>absurd h (by simp)
    refine ⟨⟨0,rowSz bx.ty,rowTy bx.ty,[],false,true⟩,?_,rfl,rfl,xal (xaC _),Nat.zero_le _,Nat.zero_le _,fun y hy=>by simp at hy,hc0,hc0,hc0,hc0⟩
    rw [xbw hH1 hC hslot0 rfl (by rw [hlen];omega)]
    simp only
    rw [hg2 i0 hi0,xcQ (by rw [hsz];exact hss) (by rw [hsz];exact hok _ (xad hi0)) (by rw [hsz];exact hss),if_pos rfl]
    rfl
   ·
    have hx0:x.base=n:=hx
    obtain ⟨rb,k1,k2⟩:=hR.box x m0 h0
    cases x with
    | b k=>simp only [Id.base] at hx0;subst hx0;exact absurd rfl hne
    | r k i j =>
     simp only [Id.base] at hx0
     subst hx0
     obtain ⟨q2,q3,q4,q5⟩:=xb9 hb hC k1
     have hfr:bx.frz=false:=hfz
     refine ⟨rb,?_,k2.mono (fun c0=>(hblk _ m0 hne h0 c0).1) hw hs hA (fun c0=>?_) hext⟩
     · rw [xbw hH1 hC q2 rfl (by rw [hlen];omega)]
       simp only
       rw [hg1 i q4,q5]
       generalize (bx.xs.getD i .top).cells.getD j .top=z
       cases z<;>simp [rowBox,hfr]
     · rw [k2.guard c0]
       exact ⟨(hblk _ m0 hne h0 c0).2,hA _ (k2.lt c0)⟩
 · rcases hcase0 x m1 h1 c1 with ⟨rfl,rfl⟩|⟨a1,a2⟩<;>rcases hcase0 x' m2 h2 c2 with ⟨rfl,rfl⟩|⟨b1,b2⟩
   · rfl
   · exact absurd he.symm (mix x' m2 b1 b2 c2)
   · exact absurd he (mix x m1 a1 a2 c1)
   · exact hR.inj x x' m1 m2 a1 b1 c1 c2 he
def isNils:AV→Bool
 | .nils=>true
 | _=>false
def absAppC (P:Program) (H:List Box) (t tt:TypeId) (s x:AV):Option (AV×List Box) :=
 match tinfo P t,s with
 | some ti,.osl (.b n) ver off len=>match ti.d with
  | .slice e=>match tinfo P e,getBox H (.b n) ver with
   | some te,some bx=>match absSrc P H t tt e te.sz x with
    | some (ys,pm)=>if off=0∧len=bx.xs.length∧bx.frz=false∧bx.sz=te.sz∧isC bx.ty=true∧rty bx.ty=e∧bx.pm=true∧pm=true∧slotOf bx.ty<te.sz∧0<te.sz ∧
      (len+ys.length)*te.bytes≤140737488355328∧len+ys.length≤strMax∧te.zero.okElem te.sz=true∧0<ys.length∧ys.all (fun y=>isNils (y.cells.getD (slotOf bx.ty) .top))=true then
     some (.osl (.b n) (ver+1) 0 (len+ys.length),H.set n ⟨ver+1,te.sz,bx.ty,bx.xs++ys.map (newRow bx.ty te.sz),false,true⟩) else none
    | none=>none
   | _,_=>none
  | _=>none
 | _,_=>none
set_option maxHeartbeats 1000000 in
theorem xjs (hR:HR w A M B H) (hB:B≤w.heap.size) {o:Oper} {ρc:Operand→Value} {c:Call} {t tt:TypeId} {os ox:Operand} {xs xx r:AV} {H':List Box} (ho:o.op=.call c) (hcal:c.callee=.builtin .append)
  (hts:c.argTypes.toList=[t,tt]) (has:c.args.toList=[os,ox]) (hs:Rel w A M (ρc os) xs) (hx:Rel w A M (ρc ox) xx) (h:absAppC P H t tt xs xx=some (r,H')) :
  Writes P o ρc w A M B r H':=by
 unfold absAppC at h
 split at h
 case h_2=>simp at h
 rename_i ti n ver off len hti
 split at h
 case h_2=>simp at h
 rename_i e hd
 split at h
 case h_2=>simp at h
 rename_i te bx hte hbx
 split at h
 case h_2=>simp at h
 rename_i ys pm hys
 split at h
 case isFalse=>simp at h
 rename_i hc0
 obtain ⟨rfl,hlen,hfz,hsz,hC,hty,hpm,rfl,hsl,hpos,hby,hln,hzok,hy0,hnil⟩:=hc0
 simp only [Option.some.injEq,Prod.mk.injEq] at h;obtain ⟨rfl,rfl⟩:=h
 have hu:P.underlying t=some (.slice e):=by rw [xce hti,hd]
 obtain ⟨i,z,hi1,hi2,hi3,hi4,hi5,hi6,_⟩:=xaj hte
 have hsrc:=xdg (ty:=o.type) hR hte hpos hu hi1 hx hys
 have hts':c.argTypes=#[t,tt]:=by apply Array.ext';simpa using hts
 have has':c.args=#[os,ox]:=by apply Array.ext';simpa using has
 have hrunE:∀ v w',(Builtin.append_ #[t,tt] o.type #[ρc os,ρc ox]).run P w=.ok v w'→(execOp ρc o).run P w=.ok (.value v) w':=by
  intro v w' hv
  simp [execOp,ho,resolve,hcal,hts',has',invoke,builtin,hv,Go.resolve]
 rcases hsrc with ⟨rfl,_⟩|⟨_,hok,news,hnl,hnr,hruns⟩
 · simp at hy0
 obtain ⟨m,a,hm,hbat,hfit,hsv,ha⟩:=xb6 hR hs hbx
 obtain ⟨hb1,hb2⟩:=xaf hbx
 rw [xaK] at hb1
 simp only [Nat.sub_zero,Nat.zero_add] at hsv hfit
 have hms:m.sz=te.sz:=by rw [←hbat.sz,hsz]
 have hmt:m.ty=e:=by rw [←hbat.ty,hty]
 have hmv:m.ver=ver:=by rw [←hbat.ver,hb2]
 have hlsm:len+ys.length≤4611686018427387904:=hln
 have hnil':∀ y,y∈ys→y.cells.getD (slotOf bx.ty) .top=.nils:=fun y hy=>by
  have:=List.all_eq_true.1 hnil y hy
  generalize y.cells.getD (slotOf bx.ty) .top=q at this
  cases q<;>first|rfl|(simp [isNils] at this)
 have hok':∀ y,y∈ys→y.okElem m.sz=true:=fun y hy=>by rw [hms];exact hok y hy
 have hH':(⟨ver+1,te.sz,bx.ty,bx.xs++ys.map (newRow bx.ty te.sz),false,true⟩:Box)=⟨bx.ver+1,bx.sz,bx.ty,bx.xs++ys.map (newRow bx.ty bx.sz),false,true⟩:=by rw [hsz,hb2]
 rw [hH']
 have hrz:Rel w A M z te.zero:=by rw [hi6];exact xaG w A M z
 obtain ⟨hzc,_⟩:=hrz.cells (xag hzok)
 have hzl:=xab hzok
 have moved:∀ (c1:Array Value) (cap:Nat),c1.size=cap*te.sz→len+ys.length≤cap→cap≤maxLen →
   (∀ i j,i<bx.xs.length→j<m.sz→Rel w A (MV M bx j) (c1.getD (i*m.sz+j) undef) (viewC n i j bx.ty ((bx.xs.getD i .top).cells.getD j .top))) →
   (∀ k,k<ys.length*te.sz→c1.getD (len*te.sz+k) undef=news.getD k undef) →
   (Builtin.append_ #[t,tt] o.type #[ρc os,ρc ox]).run P w=.ok (.slice (some ⟨w.heap.size,0,none⟩) (len+ys.length) cap) (w.drew.alloc (.cells c1 e)) →
   Writes P o ρc w A M B (.osl (.b n) (ver+1) 0 (len+ys.length)) (H.set n ⟨bx.ver+1,bx.sz,bx.ty,bx.xs++ys.map (newRow bx.ty bx.sz),false,true⟩):=by
  intro c1 cap hc1s hge hcm hold hnew hrun
  have hbel:Below w.heap.size w (w.drew.alloc (.cells c1 e)):=((Below.refl _ _).drew).alloc (by simp) _
  have hA:∀ b,b<w.heap.size→(APut A w.heap.size false b→A b):=fun b hb h=>by
   rcases h with h|⟨h,_⟩
   · exact h
   · omega
  have hnb:(w.drew.alloc (.cells c1 e)).heap[w.heap.size]?=some (.cells c1 e (0,0)):=heap_alloc_new w.drew (.cells c1 e)
  obtain ⟨M',g1,g2,g3,g4⟩:=hR.grown (m':=⟨w.heap.size,ver+1,te.sz,cap,e⟩) (w':=w.drew.alloc (.cells c1 e)) (A':=APut A w.heap.size false) (c':=c1) (ys:=ys) hm hb1 hbat hfz hC (hbat.nomap (xaA hbx)) hpm (by rw [hms];exact hsl)
   (fun b hb _=>hbel.block b hb) hbel.size hA (fun x m0 _ h0 c0=>by
    obtain ⟨bx0,_,k2⟩:=hR.box x m0 h0
    exact ⟨hbel.block _ (k2.lt c0),.inl⟩) (by simp [hmv]) hms.symm hmt.symm (by simp;omega) hcm hB (by simp) (.inr ⟨rfl,rfl⟩) hnb (by simp [hms,hc1s]) (.inr (Nat.le_refl _)) hold
   (fun i' j hi' hj=>by
    rw [hms] at hj ⊢
    rw [Nat.add_mul,Nat.add_assoc,←hlen,hnew _ (xaD hi' hj)]
    exact hnr i' j hi' hj) hok' hnil' (fun b hb=>by
     rcases hb with hb|⟨rfl,_⟩
     · have:=hR.lt b hb;simp;omega
     · simp)
  exact ⟨_,_,APut A w.heap.size false,M',_,hrunE _ _ hrun,.inl rfl,hbel.mono hB,g2,fun b hb=>⟨hA b hb,.inl⟩,fun b hb _=>hbel.block b hb,⟨fun b hb _=>hbel.block b hb,fun x m0 h0 c0=>by
   rcases g4 x m0 h0 c0 with ⟨_,rfl⟩|⟨h1,_⟩
   · exact .inr (Nat.le_refl _)
   · exact .inl ⟨x,m0,h1,c0,rfl⟩⟩,g1,.osl _ (.b n) (ver+1) 0 (len+ys.length) _ g3 (Nat.le_refl _) rfl fun _=>⟨by simpa using hge,some ⟨w.heap.size,0,none⟩,by simp,fun _=>by simp⟩⟩
 rcases Nat.eq_zero_or_pos m.cap with hcap0|hcap0
 ·
  have hx0:bx.xs=[]:=List.eq_nil_of_length_eq_zero (by omega)
  have hl0:len=0:=by omega
  subst hl0
  rw [hcap0] at hsv
  have hge:=grownCap_ge w (0+ys.length) 0 e
  have hcm:=grownCap_le_maxLen w (0+ys.length) 0 e (by unfold maxLen;omega)
  have hzsz:(Builtin.zeroCells z.cells (grownCap w (0+ys.length) 0 e - ys.length)).size=(grownCap w (0+ys.length) 0 e - ys.length)*te.sz:=by rw [size_zeroCells];congr 1;omega
  refine moved (news.toArray++Builtin.zeroCells z.cells (grownCap w (0+ys.length) 0 e - ys.length)) (grownCap w (0+ys.length) 0 e) (by rw [Array.size_append,List.size_toArray,hnl,hzsz,←Nat.add_mul];congr 1;omega) hge hcm (fun i' j hi' _=>by rw [hx0] at hi';simp at hi') (fun k hk=>?_) ?_
  · rw [show 0*te.sz+k=k by omega]
    simp only [Array.getD_eq_getD_getElem?,Array.getElem?_append,List.size_toArray,hnl,hk,if_true,List.getElem?_toArray,List.getD_eq_getElem?_getD]
  · rw [hsv]
    cases a with
    | none =>
     have hrun:=(hruns i z hi1 hi3 hi4.symm).nil (by omega) (by rw [←hi5];simp at hby;omega)
     simpa using hrun
    | some a =>
     have hrun:=(hruns i z hi1 hi3 hi4.symm).grow a 0 0 [] (by simp) (by simp) (by omega) (by omega) (growslice_fits (by omega) (by rw [←hi5];exact hby))
     simpa using hrun
 have haa:=ha hcap0;subst haa
 simp only [Nat.zero_mul] at hsv
 obtain ⟨c0,h1,h2,h3⟩:=hbat.cells hcap0
 replace h1:=h1.plain (hbat.nomap (xaA hbx))
 have hAm:A m.b:=(hbat.guard hcap0).1 hfz
 have hlc:len≤m.cap:=hfit
 by_cases hroom:len+ys.length≤m.cap
 ·
  have hoff:len*te.sz+news.length≤c0.toList.length:=by
   have hll:c0.toList.length=m.cap*te.sz:=by simp [h2,hms]
   rw [hnl,←Nat.add_mul,hll]
   exact Nat.mul_le_mul_right _ hroom
  have hrun:(Builtin.append_ #[t,tt] o.type #[ρc os,ρc ox]).run P w=.ok (.slice (some ⟨m.b,0,none⟩) (len+ys.length) m.cap) (w.setRow m.b (splice c0.toList (len*te.sz) news).toArray):=by
   have hfitc:len*i.size+news.length≤c0.size:=by
    rw [hnl,←hi4,←Nat.add_mul,h2,hms]
    exact Nat.mul_le_mul_right _ hroom
   have:=(hruns i z hi1 hi3 hi4.symm).room m.b len m.cap c0 (by rw [←hmt];exact h1) hroom hfitc
   rw [hsv,this,←hi4]
   rfl
  generalize hc1:(splice c0.toList (len*te.sz) news).toArray=c1 at hrun
  have hcs:c1.size=m.cap*m.sz:=by rw [←hc1];have:=xbV hoff;simp at this ⊢;omega
  have hs':(w.setRow m.b c1).heap.size=w.heap.size:=by simp [World.setRow]
  have hw:∀ b,b<w.heap.size→¬ A b→(w.setRow m.b c1).heap[b]?=w.heap[b]?:=fun b _ hb=>setRow_other w m.b b c1 fun e=>hb (e▸hAm)
  obtain ⟨M',g1,g2,g3,g4⟩:=hR.grown (m':=⟨m.b,ver+1,m.sz,m.cap,m.ty⟩) (w':=w.setRow m.b c1) (A':=A) (c':=c1) (ys:=ys) hm hb1 hbat hfz hC (hbat.nomap (xaA hbx)) hpm (by rw [hms];exact hsl)
   hw (by rw [hs'];exact Nat.le_refl _) (fun _ _ h=>h) (fun x m0 hx h0 c0'=>⟨setRow_other w m.b m0.b c1 fun e=>hx (hR.inj x (.b n) m0 m h0 hm c0' hcap0 e),fun h=>h⟩) (by simp [hmv]) rfl rfl (by simp;omega) hbat.capm (hbat.low hcap0) (by rw [hs'];exact hbat.lt hcap0) hAm
   (setRow_heap w m.b c0 c1 m.ty (0,0) h1) hcs (.inl ⟨rfl,hcap0⟩)
   (fun i' j hi' hj=>by
    rw [←hc1,xbi,xbK hoff,if_neg (by
     have h9:=xaD hi' hj
     rw [←hlen,hms] at h9
     rw [hms]
     omega),xas]
    exact h3 i' j hi' hj)
   (fun i' j hi' hj=>by
    rw [hms] at hj ⊢
    rw [Nat.add_mul,Nat.add_assoc,←hlen,←hc1,xbi,xbK hoff,if_pos (by have:=xaD hi' hj;rw [hnl];omega),show len*te.sz+(i'*te.sz+j) - len*te.sz=i'*te.sz+j by omega]
    exact hnr i' j hi' hj) hok' hnil' (fun b hb=>by rw [hs'];exact hR.lt b hb)
  exact ⟨_,w.setRow m.b c1,A,M',_,hrunE _ _ hrun,.inl rfl,⟨rfl,rfl,rfl,by rw [hs'];exact Nat.le_refl _,fun k hk=>setRow_other w m.b k c1 fun e=>by have:=hbat.low hcap0;omega⟩,g2,fun _ _=>Iff.rfl,hw,⟨fun b _ hb=>setRow_other w m.b b c1 fun e=>hb (.b n) m hm hcap0 e.symm,fun x m0 h0 c0'=>by
   rcases g4 x m0 h0 c0' with ⟨_,rfl⟩|⟨h1',_⟩
   · exact .inl ⟨.b n,m,hm,hcap0,rfl⟩
   · exact .inl ⟨x,m0,h1',c0',rfl⟩⟩,g1,.osl _ (.b n) (ver+1) 0 (len+ys.length) _ g3 (Nat.le_refl _) rfl fun _=>⟨by simpa using hroom,some ⟨m.b,0,none⟩,by simp,fun _=>by simp⟩⟩
 · have holds:∀ j u,(c0.toList.take (len*te.sz))[j]?=some u→w.cell? ((⟨m.b,0,none⟩:Addr).add j)=some u:=by
    intro j u hu'
    rw [List.getElem?_take] at hu'
    split at hu'
    · rw [xbv,Nat.zero_add]
      simp [World.cell?,h1]
      simpa using hu'
    · simp at hu'
   have hol:(c0.toList.take (len*te.sz)).length=len*te.sz:=by
    simp only [List.length_take,Array.length_toList,h2,hms]
    have:len*te.sz≤m.cap*te.sz:=Nat.mul_le_mul_right _ hlc
    omega
   have hrun:=(hruns i z hi1 hi3 hi4.symm).grow ⟨m.b,0,none⟩ len m.cap (c0.toList.take (len*te.sz)) (by rw [hol,hi4]) holds (by omega) (by omega) (growslice_fits (by omega) (by rw [←hi5];exact hby))
   have hge:=grownCap_ge w (len+ys.length) m.cap e
   have hcm:=grownCap_le_maxLen w (len+ys.length) m.cap e (by unfold maxLen;omega)
   generalize hcap:grownCap w (len+ys.length) m.cap e=cap at hrun hge hcm
   have hzsz:(Builtin.zeroCells z.cells (cap - (len+ys.length))).size=(cap - (len+ys.length))*te.sz:=by rw [size_zeroCells];congr 1;omega
   generalize hcc:(c0.toList.take (len*te.sz)).toArray++news.toArray++Builtin.zeroCells z.cells (cap - (len+ys.length))=c1 at hrun
   have hc1s:c1.size=cap*te.sz:=by
    rw [←hcc]
    simp only [Array.size_append,List.size_toArray,hol,hnl,hzsz,←Nat.add_mul]
    congr 1
    omega
   refine moved c1 cap hc1s hge hcm (fun i' j hi' hj=>?_) (fun k hk=>?_) (by rw [hsv];exact hrun)
   · have hk:=xaD hi' hj
     rw [←hlen,hms] at hk
     have e1:c1.getD (i'*m.sz+j) undef=c0.getD (i'*m.sz+j) undef:=by
      rw [←xas,←xas,←hcc,hms]
      simp only [Array.toList_append,List.append_assoc,List.getD_eq_getElem?_getD,List.getElem?_append,hol,hk,if_true,List.getElem?_take]
     rw [e1]
     exact h3 i' j hi' hj
   · rw [←xas,←hcc]
     simp only [Array.toList_append,List.append_assoc,List.getD_eq_getElem?_getD,List.getElem?_append,hol,show ¬ len*te.sz+k<len*te.sz by omega,if_false,hnl,show len*te.sz+k - len*te.sz=k by omega,hk,if_true]
def mkd (H:List Box):AV→Bool
 | .own (.b n) _ _ _=>match H[n]? with
  | some bx=>isC bx.ty
  | none=>false
 | .osl (.b n) _ _ _=>match H[n]? with
  | some bx=>isC bx.ty
  | none=>false
 | _=>false
def isRowRef:AV→Bool
 | .osl (.r _ _ _) _ _ _=>true
 | _=>false
def absTake (P:Program) (H:List Box) (t tt:TypeId) (s x:AV):Option (AV×List Box) :=
 match s with
 | .osl (.r n i j) ver off len=>match H[n]? with
  | some bx=>match (bx.xs.getD i .top).cells.getD j .top with
   | .list sz ys=>if isSlot bx.ty j=true∧bx.pm=true∧j<bx.sz∧i<bx.xs.length∧(bx.xs.getD i .top).cells.length=bx.sz∧ver=2*ys.length∧off=0∧len=ys.length then
    absAppend P (H.set n (setRowC bx bx.ver i j (.int .i64 ys.length))++[⟨0,sz,rowTy bx.ty,ys,bx.frz,true⟩]) t tt (.osl (.b H.length) 0 0 len) x else none
   | _=>none
  | none=>none
 | _=>none
theorem Writes.pre {o:Oper} {ρc:Operand→Value} {x:AV} {H':List Box} {M1:Id→Option MB} (hm:Mv w A M w A M1) (h:Writes P o ρc w A M1 B x H'):Writes P o ρc w A M B x H':=by
 obtain ⟨n,w',A',M',v,h1,h2,h3,h4,h5,h6,h7,h8,h9⟩:=h
 refine ⟨n,w',A',M',v,h1,h2,h3,hm.ext.trans h4,h5,h6,⟨fun b hb hno=>h7.1 b hb fun id m hid h0 e=>?_,fun id m' hid h0=>?_⟩,h8,h9⟩
 · rcases hm.touch.2 id m hid h0 with ⟨i,m1,g1,g2,g3⟩|g1
   · exact hno i m1 g1 g2 (by rw [←g3,e])
   · omega
 · rcases h7.2 id m' hid h0 with ⟨i,m1,g1,g2,g3⟩|g1
   · rcases hm.touch.2 i m1 g1 g2 with ⟨i2,m2,k1,k2,k3⟩|k1
     · exact .inl ⟨i2,m2,k1,k2,by rw [g3,k3]⟩
     · exact .inr (by rw [g3];exact k1)
   · exact .inr g1
theorem xj3 (hR:HR w A M B H) (hB:B≤w.heap.size) {o:Oper} {ρc:Operand→Value} {c:Call} {t tt:TypeId} {os ox:Operand} {xs xx r:AV} {H':List Box} (ho:o.op=.call c) (hcal:c.callee=.builtin .append)
  (hts:c.argTypes.toList=[t,tt]) (has:c.args.toList=[os,ox]) (hs:Rel w A M (ρc os) xs) (hx:Rel w A M (ρc ox) xx) (h:absTake P H t tt xs xx=some (r,H')) :
  Writes P o ρc w A M B r H':=by
 unfold absTake at h
 split at h
 case h_2=>simp at h
 rename_i n i j ver off len
 split at h
 case h_2=>simp at h
 rename_i bx hb
 split at h
 case h_2=>simp at h
 rename_i sz ys hcell
 split at h
 case isFalse=>simp at h
 rename_i hc0
 obtain ⟨hsl,hpm,hj,hi,hel,rfl,rfl,rfl⟩:=hc0
 obtain ⟨m,hm,_⟩:=Rel.osl_inv hs
 obtain ⟨d1,d2,d3⟩:=hR.detach hb hsl hcell hj hel hm
 exact Writes.pre d2 (xeU d1 hB ho hcal hts has (d3 _ hs) (hx.mono (fun _ _ _=>rfl) (Nat.le_refl _) (fun _ _ h=>h) d2.ext) h)
theorem xmh {t:TypeId} (hnm:isMapT t=false):isC (rty t)=false:=by
 unfold rty
 split
 · rw [hnm]
   show isC (t % 1048576)=false
   have h:t % 1048576<1048576:=Nat.mod_lt _ (by omega)
   unfold isC
   cases hb:Nat.ble 1048576 (t % 1048576) with
   | false=>rfl
   | true=>have:=Nat.le_of_ble_eq_true hb;exact absurd h (Nat.not_lt.2 this)
 · assumption
theorem HR.unmark (hR:HR w A M B H) {n:Nat} {bx:Box} (hb:H[n]?=some bx) (hC:isC bx.ty=true) (hnm:isMapT bx.ty=false) (hok:rowsOk bx bx.xs=true) :
  ∃ A' M',HR w A' M' B (H.set n ⟨bx.ver,bx.sz,rty bx.ty,bx.xs,bx.frz,true⟩)∧Mv w A M w A' M'∧∀ b,b<B→A b→A' b:=by
 have hn:n<H.length:=xbj hb
 let A':Nat→Prop:=fun b=>A b∧¬ ∃ i j m0,M (.r n i j)=some m0∧0<m0.cap∧m0.b=b
 let M':Id→Option MB:=fun x=>match x with
  | .b _=>M x
  | .r k i j=>if k=n then (M x).map fun _=>⟨0,tombB.ver,0,0,0⟩ else M x
 have hM'b:∀ k,M' (.b k)=M (.b k):=fun k=>rfl
 have hM'r:∀ i j m0,M (.r n i j)=some m0→M' (.r n i j)=some ⟨0,tombB.ver,0,0,0⟩:=fun i j m0 h=>by simp [M',h]
 have hM'n:∀ i j,M (.r n i j)=none→M' (.r n i j)=none:=fun i j h=>by simp [M',h]
 have hM'o:∀ x:Id,x.base≠n→M' x=M x:=fun x hx=>by
  cases x with
  | b k=>rfl
  | r k i j=>simp only [Id.base] at hx;simp [M',hx]
 have hrows:=hok
 unfold rowsOk at hrows
 rw [hC] at hrows
 simp only [rowsAll,Bool.and_eq_true,List.all_eq_true] at hrows
 obtain ⟨hpm,hrows⟩:=hrows
 have hlive:∀ i j m0,M (.r n i j)=some m0→isSlot bx.ty j=true∧i<bx.xs.length∧m0.ver<tombB.ver:=fun i j m0 h=>by
  obtain ⟨rb,k1,k2⟩:=hR.box _ m0 h
  obtain ⟨e1,e2,e3,e4⟩:=xb9 hb hC k1
  obtain ⟨ys,hy⟩:=xca (hrows _ (xad e3))
  rw [xfl e1,hy] at e4
  subst e4
  have h1:2*ys.length=m0.ver:=k2.ver
  have h2:ys.length≤m0.cap:=k2.fits
  have h3:=k2.capm
  unfold maxLen at h3
  refine ⟨e1,e3,?_⟩
  show m0.ver<1208925819614629174706176
  omega
 have hext:MExt M M':=fun x m0 h=>by
  by_cases hx:x.base=n
  · cases x with
    | b k=>exact ⟨m0,h,.inl rfl⟩
    | r k i j =>
     simp only [Id.base] at hx
     subst hx
     exact ⟨_,hM'r i j m0 h,.inr (hlive i j m0 h).2.2⟩
  · exact ⟨m0,by rw [hM'o x hx];exact h,.inl rfl⟩
 have hsrc:∀ x m',M' x=some m'→0<m'.cap→M x=some m'∧∀ i j,x≠.r n i j:=fun x m' h h0=>by
  by_cases hx:x.base=n
  · cases x with
    | b k=>exact ⟨h,fun i j e=>by cases e⟩
    | r k i j =>
     simp only [Id.base] at hx
     subst hx
     cases hm:M (.r k i j) with
     | none=>rw [hM'n i j hm] at h;cases h
     | some m0 =>
      rw [hM'r i j m0 hm] at h
      simp only [Option.some.injEq] at h
      subst h
      exact absurd h0 (by simp)
  · rw [hM'o x hx] at h
    exact ⟨h,fun i j e=>hx (by rw [e];rfl)⟩
 have hA:∀ b,b<w.heap.size→A' b→A b:=fun b _ h=>h.1
 have hstay:∀ (x:Id) m0,(∀ i j,x≠.r n i j)→M x=some m0→0<m0.cap→A m0.b→A' m0.b:=fun x m0 hx h h0 hA0=>by
  refine ⟨hA0,?_⟩
  rintro ⟨i,j,m1,e1,e2,e3⟩
  exact hx i j (hR.inj x (.r n i j) m0 m1 h e1 h0 e2 e3.symm)
 have hH1:(H.set n ⟨bx.ver,bx.sz,rty bx.ty,bx.xs,bx.frz,true⟩)[n]?=some ⟨bx.ver,bx.sz,rty bx.ty,bx.xs,bx.frz,true⟩:=List.getElem?_set_self hn
 have hpl:isC (rty bx.ty)=false:=xmh hnm
 refine ⟨A',M',hR.rebuild (fun k=>k=n) (fun k hk _=>List.getElem?_set_ne (fun e=>hk e.symm)) (fun x hx=>hM'o x hx) (fun x m0 hx h0 c0=>⟨rfl,hstay x m0 (fun i j e=>hx (by rw [e];rfl)) h0 c0⟩) (fun _ _ _=>rfl) (Nat.le_refl _) hA hext (fun x m' hx h=>?_) (fun x m1 x' m2 _ h1 h2 c1 c2 he=>?_) (fun b hb=>hR.lt b hb.1),
  ⟨Nat.le_refl _,fun _ _ _=>rfl,hA,fun b _ h hno=>⟨h,?_⟩,hext,⟨fun _ _ _=>rfl,fun x m' h h0=>.inl ⟨x,m',(hsrc x m' h h0).1,h0,rfl⟩⟩⟩,fun b hbB h=>⟨h,?_⟩⟩
 · cases x with
   | b k =>
    have hx:k=n:=hx
    subst hx
    have h:M (.b k)=some m':=h
    obtain ⟨bx',k1,k2⟩:=hR.box _ m' h
    rw [xaK,hb] at k1
    simp only [Option.some.injEq] at k1
    subst k1
    refine ⟨_,hH1,k2.ver,k2.sz,by rw [xal hpl];exact k2.ty,k2.capm,k2.fits,k2.ok,k2.low,k2.lt,fun h0=>?_,fun h0=>?_⟩
    · obtain ⟨c,c1,c2,c3⟩:=k2.cells h0
      refine ⟨c,c1,c2,fun i j hi hj=>?_⟩
      have h4:=c3 i j hi hj
      rw [xai hpl,xau (bx:=⟨bx.ver,bx.sz,rty bx.ty,bx.xs,bx.frz,true⟩) hpl]
      show Rel w A' noBox _ _
      cases hsl:isSlot bx.ty j with
      | true =>
       obtain ⟨ys,hy⟩:=xca (hrows _ (xad hi))
       rw [←xfl hsl] at hy
       unfold viewC MV at h4
       simp only [hsl] at h4
       rw [hy] at h4 ⊢
       exact xiy hR hA hb hC hy h4 fun m0 e1 e2 e3=>e3.2 ⟨i,j,m0,e1,e2,rfl⟩
      | false =>
       unfold viewC MV at h4
       simp only [hsl,hpm] at h4
       exact h4.mono (fun _ _ _=>rfl) (Nat.le_refl _) hA (MExt.refl _)
    · rw [k2.guard h0]
      exact ⟨hstay (.b k) m' (fun i j e=>by cases e) h h0,fun h=>h.1⟩
   | r k i j =>
    have hx:k=n:=hx
    subst hx
    cases hm:M (.r k i j) with
    | none=>rw [hM'n i j hm] at h;cases h
    | some m0 =>
     rw [hM'r i j m0 hm] at h
     simp only [Option.some.injEq] at h
     subst h
     have hc0:∀ {p:Prop},0<(0:Nat)→p:=fun h=>absurd h (by simp)
     exact ⟨tombB,xbG hH1 hpl,rfl,rfl,rfl,Nat.zero_le _,Nat.zero_le _,fun y hy=>by simp [tombB] at hy,hc0,hc0,hc0,hc0⟩
 · exact hR.inj x x' m1 m2 (hsrc x m1 h1 c1).1 (hsrc x' m2 h2 c2).1 c1 c2 he
 · rintro ⟨i,j,m1,e1,e2,e3⟩
   exact hno _ m1 e1 e2 e3
 · rintro ⟨i,j,m1,e1,e2,e3⟩
   obtain ⟨rb,_,k2⟩:=hR.box _ m1 e1
   have:=k2.low e2
   omega
end
section
open Go.Maps Go.MapKept
def isKey (s:List UInt8) (x:AV):Bool:=match x with
 | .str k=>k==s
 | _=>false
def mapIx:List AV→List UInt8→Option Nat
 | [],_=>none
 | e::es,s=>match isKey s (e.cells.getD 0 .top) with
  | true=>some 0
  | false=>(mapIx es s).map (·+1)
def mapHas (xs:List AV) (s:List UInt8):Bool:=(mapIx xs s).isSome
def mapGet (z:AV) (xs:List AV) (s:List UInt8):AV:=match mapIx xs s with
 | some i=>(xs.getD i .top).cells.getD 1 .top
 | none=>z
def mapPut (xs:List AV) (s:List UInt8) (v:AV):List AV:=match mapIx xs s with
 | some i=>xs.set i (.agg [.str s,v])
 | none=>xs++[.agg [.str s,v]]
def mapTy (t:TypeId):TypeId:=1208925819614629241815040+4294967296*t
theorem xgv:∀ {xs:List AV} {s:List UInt8},(∀ i,i<xs.length→isKey s ((xs.getD i .top).cells.getD 0 .top)=false)→mapIx xs s=none
 | [],_,_=>rfl
 | e::es,s,h=>by
  have h0:=h 0 (by simp)
  simp only [List.getD_cons_zero] at h0
  simp only [mapIx,h0]
  rw [xgv fun i hi=>by simpa using h (i+1) (by simpa using hi)]
  rfl
theorem xgw:∀ {xs:List AV} {s:List UInt8} {j:Nat},j<xs.length→isKey s ((xs.getD j .top).cells.getD 0 .top)=true→(∀ i,i<j→isKey s ((xs.getD i .top).cells.getD 0 .top)=false)→mapIx xs s=some j
 | [],_,_,h,_,_=>by simp at h
 | e::es,s,0,_,h1,_=>by simp only [List.getD_cons_zero] at h1;simp only [mapIx,h1]
 | e::es,s,j+1,h,h1,h2=>by
  have h0:=h2 0 (by omega)
  simp only [List.getD_cons_zero] at h0
  simp only [mapIx,h0]
  rw [xgw (j:=j) (by simpa using h) (by simpa using h1) fun i hi=>by simpa using h2 (i+1) (by omega)]
  rfl
theorem xhk {s t:ByteArray} (h:s.data.toList=t.data.toList):s=t:=by
 cases s;cases t
 simp only at h
 congr 1
 exact Array.ext' h
structure MapAt (w:World) (A:Nat→Prop) (M:Id→Option MB) (m:MB) (xs:List AV) (es:Array MapEntry) (clock:Nat):Prop where
 heap:w.heap[m.b]?=some (.map es clock)
 size:es.size=xs.length
 keys:∀ (k:Nat) (x:MapEntry),es[k]?=some x→∃ t:ByteArray,x.key=.string t∧(xs.getD k .top).cells.getD 0 .top=.str t.data.toList∧t.size≤maxLen
 vals:∀ (k:Nat) (x:MapEntry),es[k]?=some x→Rel w A M x.val ((xs.getD k .top).cells.getD 1 .top)
 apart:∀ (k l:Nat) (x y:MapEntry),es[k]?=some x→es[l]?=some y→x.key=y.key→k=l
theorem MapAt.miss {w:World} {A:Nat→Prop} {M:Id→Option MB} {m:MB} {xs:List AV} {es:Array MapEntry} {clock:Nat} (h:MapAt w A M m xs es clock) {t:ByteArray} (hno:∀ x∈es.toList,x.key≠.string t):mapIx xs t.data.toList=none :=
 xgv fun i hi=>by
  have hi':i<es.size:=by rw [h.size];exact hi
  obtain ⟨t',h1,h2,_⟩:=h.keys i es[i] (by simp [hi'])
  rw [h2]
  show (t'.data.toList==t.data.toList)=false
  rw [beq_eq_false_iff_ne]
  intro e
  exact hno es[i] (by simp) (by rw [h1,xhk e])
theorem MapAt.hit {w:World} {A:Nat→Prop} {M:Id→Option MB} {m:MB} {xs:List AV} {es:Array MapEntry} {clock:Nat} (h:MapAt w A M m xs es clock) {t:ByteArray} {j:Nat} {e0:MapEntry} (hj:es.toList[j]?=some e0) (hk:e0.key=.string t):mapIx xs t.data.toList=some j∧j<xs.length:=by
 have hj0:es[j]?=some e0:=by simpa using hj
 have hj':j<es.size:=by
  rcases Nat.lt_or_ge j es.size with h|h
  · exact h
  · simp [Array.getElem?_eq_none h] at hj0
 have hlt:j<xs.length:=by rw [←h.size];exact hj'
 refine ⟨xgw hlt ?_ fun i hi=>?_,hlt⟩
 · obtain ⟨t',h1,h2,_⟩:=h.keys j e0 hj0
   rw [h2]
   rw [hk] at h1
   injection h1 with h1
   rw [h1]
   show (t'.data.toList==t'.data.toList)=true
   exact beq_self_eq_true _
 · have hi':i<es.size:=by omega
   obtain ⟨t',h1,h2,_⟩:=h.keys i es[i] (by simp [hi'])
   rw [h2]
   show (t'.data.toList==t.data.toList)=false
   rw [beq_eq_false_iff_ne]
   intro e
   have:=h.apart i j es[i] e0 (by simp [hi']) hj0 (by rw [h1,hk,xhk e])
   omega
theorem xkY {xs:List AV} {sz k j:Nat} (hok:∀ x,x∈xs→x.okElem sz=true) (hk:k<xs.length) (hj:j<sz):((xs.getD k .top).cells.getD j .top).one=true:=by
 have h:=hok _ (xad hk)
 have h1:=xag h
 have h2:=xab h
 rw [List.all_eq_true] at h1
 exact h1 _ (xad (by omega))
theorem xjV {w:World} {A:Nat→Prop} {M:Id→Option MB} {t:ByteArray} {x:AV} (h:Rel w A M (.string t) x) (hx:x.one=true) (hno:∀ id ver i j,x≠.own id ver i j) (hno2:∀ id ver i j,x≠.osl id ver i j):x=.str t.data.toList:=by
 generalize hv:Value.string t=v at h
 cases h<;>first|(cases hv;rfl)|(cases hv;done)|(simp [AV.one] at hx;done)|(exact absurd rfl (hno _ _ _ _))|(exact absurd rfl (hno2 _ _ _ _))
theorem BoxAt.mapAt {w:World} {A:Nat→Prop} {M:Id→Option MB} {B:Nat} {id:Id} {m:MB} {bx:Box} (h:BoxAt w A M B id m bx) (hm:isMapT bx.ty=true) (h0:isSlot bx.ty 0=false) (h1:isSlot bx.ty 1=false) (hs:bx.sz=2) (hp:bx.pm=true) (hcap:0<m.cap) :
  ∃ es clock,MapAt w A noBox m bx.xs es clock∧m.cap=maxLen:=by
 obtain ⟨c,c1,c2,c3⟩:=h.cells hcap
 have hty:isMapT m.ty=true:=by
  rw [←h.ty]
  unfold rty
  split
  · rw [hm];exact hm
  · exact hm
 unfold HoldsC at c1
 rw [hty] at c1
 obtain ⟨es,clock,d1,d2,d3,d4,d5,d6⟩:=c1
 have hsz:m.sz=2:=by rw [←h.sz];exact hs
 have hkx:∀ (k:Nat) (x:MapEntry),es[k]?=some x→k<bx.xs.length:=fun k x hx=>by
  rw [←d2]
  rcases Nat.lt_or_ge k es.size with h|h
  · exact h
  · simp [Array.getElem?_eq_none h] at hx
 have hcell:∀ (k j:Nat),k<bx.xs.length→j<2→isSlot bx.ty j=false→Rel w A noBox (c.getD (k*m.sz+j) undef) ((bx.xs.getD k .top).cells.getD j .top):=fun k j hk hj hsl=>by
  have h4:=c3 k j hk (by rw [hsz];exact hj)
  unfold MV viewC at h4
  simp only [hsl,hp] at h4
  exact h4
 refine ⟨es,clock,⟨d1,d2,fun k x hx=>?_,fun k x hx=>?_,d6⟩,d3⟩
 · obtain ⟨t,ht,htl⟩:=d5 k x hx
   have hk:=hkx k x hx
   have h4:=hcell k 0 hk (by omega) h0
   rw [Nat.add_zero,(d4 k x hx).1,ht] at h4
   exact ⟨t,ht,xjV h4 (xkY h.ok hk (by rw [hsz];omega)) (fun id ver i j e=>by rw [e] at h4;obtain ⟨_,hh,_⟩:=Rel.own_inv h4;cases hh) (fun id ver i j e=>by rw [e] at h4;obtain ⟨_,hh,_⟩:=Rel.osl_inv h4;cases hh),htl⟩
 · have h4:=hcell k 1 (hkx k x hx) (by omega) h1
   rw [(d4 k x hx).2] at h4
   exact h4
def getMap (H:List Box) (n:Nat) (ver:Nat):Option Box:=match H[n]? with
 | some bx=>if bx.ver=ver∧isMapT bx.ty=true∧isSlot bx.ty 0=false∧isSlot bx.ty 1=false∧bx.sz=2∧bx.pm=true then some bx else none
 | none=>none
def absMakeM (P:Program) (H:List Box) (t:TypeId):Option (AV×List Box):=match P.underlying t with
 | some (.map k e)=>match P.underlying k with
  | some .string=>if isMapT (mapTy t)=true∧isC (mapTy t)=true then some (.own H.length 0 0 0,H++[⟨0,2,mapTy t,[],false,true⟩]) else none
  | _=>none
 | _=>none
def absLookM (P:Program) (H:List Box) (t:TypeId) (m k:AV) (c:Bool):Option AV:=match m,k,P.underlying t with
 | .own (.b n) ver _ _,.str s,some (.map kt et)=>match P.underlying kt,tinfo P et,getMap H n ver with
  | some .string,some te,some bx=>if s.length≤strMax then some (match c with
   | true=>.tuple [mapGet te.zero bx.xs s,.bool (mapHas bx.xs s)]
   | false=>mapGet te.zero bx.xs s) else none
  | _,_,_=>none
 | _,_,_=>none
def absPutM (P:Program) (H:List Box) (t:TypeId) (m k v:AV):Option (List Box):=match m,k,P.underlying t with
 | .own (.b n) ver _ _,.str s,some (.map kt _)=>match P.underlying kt,getMap H n ver with
  | some .string,some bx=>if bx.frz=false∧v.one=true∧v.pure=true∧bx.xs.length<strMax∧s.length≤strMax then some (H.set n ⟨ver,2,bx.ty,mapPut bx.xs s v,false,true⟩) else none
  | _,_=>none
 | _,_,_=>none
section
variable {P : Program} {w : World} {A : Nat → Prop} {M : Id → Option MB} {B : Nat} {H : List Box}
theorem xdR {n ver:Nat} {bx:Box} (h:getMap H n ver=some bx):H[n]?=some bx∧bx.ver=ver∧isMapT bx.ty=true∧isSlot bx.ty 0=false∧isSlot bx.ty 1=false∧bx.sz=2∧bx.pm=true:=by
 unfold getMap at h
 split at h
 · split at h
   · rename_i hb hc
     simp only [Option.some.injEq] at h;subst h
     exact ⟨hb,hc⟩
   · simp at h
 · simp at h
theorem xjk (hR:HR w A M B H) {v:Value} {n ver i j:Nat} {bx:Box} (h:Rel w A M v (.own (.b n) ver i j)) (hb:getMap H n ver=some bx) :
  ∃ m,M (.b n)=some m∧BoxAt w A M B (.b n) m bx∧v=.map (some m.b)∧0<m.cap:=by
 obtain ⟨hb1,hb2,hb3,_⟩:=xdR hb
 obtain ⟨m,hm,hv,h1,he⟩:=Rel.own_inv h
 obtain ⟨bx',h2,h3⟩:=hR.box _ m hm
 rw [xaK,hb1] at h2
 simp only [Option.some.injEq] at h2
 subst h2
 refine ⟨m,hm,h3,?_⟩
 have hty:isMapT m.ty=true:=by
  rw [←h3.ty]
  unfold rty
  split
  · rw [hb3];exact hb3
  · exact hb3
 have h0:=he (by rw [←hb2,h3.ver])
 unfold ptrOf at h0
 rw [hty] at h0
 cases hc:m.cap with
 | zero =>
  rw [hc] at h0
  simp only at h0
  rw [h0] at h1
  cases h1
 | succ k =>
  rw [hc] at h0
  exact ⟨h0,Nat.succ_pos k⟩
end
theorem xih {s:List UInt8} {v:AV} (h:v.one=true):(AV.agg [.str s,v]).okElem 2=true:=by
 show (true&&(true&&(v.one&&true)))=true
 rw [h];rfl
theorem xda {P:Program} {k:TypeId} (hk:P.underlying k=some .string) {t:ByteArray} (ht:t.size≤maxLen):keyOf P k (.string t)=some (.string t.data.toList):=by
 simp [keyOf,hk,mapKey,ht]
theorem xes {t:ByteArray} (h:t.data.toList.length≤strMax):t.size≤maxLen:=by
 rw [xcs]
 unfold strMax at h
 unfold maxLen
 omega
section
variable {P : Program} {w : World} {A : Nat → Prop} {M : Id → Option MB} {B : Nat} {H : List Box}
theorem xjL (hR:HR w A M B H) {o:Oper} {ρc:Operand→Value} {t:TypeId} {om ok:Operand} {c:Bool} {xm xk r:AV} (ho:o.op=.lookup t om ok c) (hm:Rel w A M (ρc om) xm) (hk:Rel w A M (ρc ok) xk) (h:absLookM P H t xm xk c=some r) :
  Writes P o ρc w A M B r H:=by
 unfold absLookM at h
 split at h
 case h_2=>simp at h
 rename_i n ver i j s kt et hut
 split at h
 case h_2=>simp at h
 rename_i te bx hkt hte hbx
 split at h
 case isFalse=>simp at h
 rename_i hsl
 simp only [Option.some.injEq] at h
 obtain ⟨m,hm1,hm2,hm3,hm4⟩:=xjk hR hm hbx
 obtain ⟨hb1,hb2,hb3,hb4,hb5,hb6,hb7⟩:=xdR hbx
 obtain ⟨es,clock,hma,_⟩:=hm2.mapAt hb3 hb4 hb5 hb6 hb7 hm4
 obtain ⟨t0,hkv,hks⟩:=hk.str_inv
 subst hks
 have hkeys:∀ x∈es.toList,∃ l,keyOf P kt x.key=some l:=fun x hx=>by
  obtain ⟨k,hk',rfl⟩:=List.mem_iff_getElem.1 hx
  simp only [Array.length_toList] at hk'
  obtain ⟨t',h1,_,h3⟩:=hma.keys k es[k] (by simp [hk'])
  exact ⟨.string t'.data.toList,by simp only [Array.getElem_toList];rw [h1];exact xda hkt h3⟩
 obtain ⟨z,hz,hzt⟩:=xiz hte w
 have hrz:Rel w A M z te.zero:=by rw [hzt];exact xaG w A M z
 have hrun:∃ v,(Instr.lookup t (ρc om) (ρc ok) c).run P w=.ok v w∧Rel w A M v r:=by
  rw [hm3,hkv,←h]
  rcases xlu c (Maps.string_keyed hkt) hut hz hma.heap hkeys (kl:=.string t0.data.toList) (xda hkt (xes hsl)) with ⟨h1,h2⟩|⟨j0,e0,h1,h2,h3⟩
  · have hix:=hma.miss h2
    refine ⟨_,h1,?_⟩
    cases c
    · simpa [mapGet,hix] using hrz
    · simp only [mapGet,mapHas,hix,if_true,Option.isSome]
      exact .tuple #[z,.bool false] _ rfl fun i hi=>by
       rcases i with _|_|i
       · exact hrz
       · exact .bool false
       · simp at hi;omega
  · obtain ⟨hix,hjl⟩:=hma.hit h1 h2
    have hv:=(hma.vals j0 e0 (by simpa using h1)).lift M
    refine ⟨_,h3,?_⟩
    cases c
    · simpa [mapGet,hix] using hv
    · simp only [mapGet,mapHas,hix,if_true,Option.isSome]
      exact .tuple #[e0.val,.bool true] _ rfl fun i hi=>by
       rcases i with _|_|i
       · exact hv
       · exact .bool true
       · simp at hi;omega
 obtain ⟨v,h1,h2⟩:=hrun
 exact ⟨.value v,w,A,M,v,by simp only [execOp,ho,Sem.run_bind,h1,Result.andThen_ok,Sem.run_pure],.inl rfl,Below.refl _ _,MExt.refl M,fun _ _=>Iff.rfl,fun _ _ _=>rfl,⟨fun _ _ _=>rfl,fun id m' h h0=>.inl ⟨id,m',h,h0,rfl⟩⟩,hR,h2⟩
theorem xl5 {xs:List AV} {s:List UInt8} {v:AV}:xs.length≤(mapPut xs s v).length∧(mapPut xs s v).length≤xs.length+1:=by
 unfold mapPut
 split<;>simp
theorem xjQ (hR:HR w A M B H) {o:Oper} {ρc:Operand→Value} {t:TypeId} {om ok ov:Operand} {xm xk xv:AV} {H':List Box} (ho:o.op=.mapUpdate t om ok ov∨o.op=.insert t om ok ov) (hm:Rel w A M (ρc om) xm) (hk:Rel w A M (ρc ok) xk) (hv:Rel w A M (ρc ov) xv) (h:absPutM P H t xm xk xv=some H') :
  Writes P o ρc w A M B (.tuple []) H':=by
 unfold absPutM at h
 split at h
 case h_2=>simp at h
 rename_i n ver i j s kt et hut
 split at h
 case h_2=>simp at h
 rename_i bx hkt hbx
 split at h
 case isFalse=>simp at h
 rename_i hc0
 obtain ⟨hfz,hone,hpure,hroom,hsl⟩:=hc0
 simp only [Option.some.injEq] at h
 subst h
 obtain ⟨m,hm1,hm2,hm3,hm4⟩:=xjk hR hm hbx
 obtain ⟨hb1,hb2,hb3,hb4,hb5,hb6,hb7⟩:=xdR hbx
 obtain ⟨es,clock,hma,hcap⟩:=hm2.mapAt hb3 hb4 hb5 hb6 hb7 hm4
 obtain ⟨t0,hkv,hks⟩:=hk.str_inv
 subst hks
 have hkeys:∀ x∈es.toList,∃ l,keyOf P kt x.key=some l:=fun x hx=>by
  obtain ⟨k,hk',rfl⟩:=List.mem_iff_getElem.1 hx
  simp only [Array.length_toList] at hk'
  obtain ⟨t',h1,_,h3⟩:=hma.keys k es[k] (by simp [hk'])
  exact ⟨.string t'.data.toList,by simp only [Array.getElem_toList];rw [h1];exact xda hkt h3⟩
 have hvn:Rel w A noBox (ρc ov) xv:=hv.pure hpure
 have hsz:m.sz=2:=by rw [←hm2.sz];exact hb6
 have hsz':bx.xs.length=es.size:=hma.size.symm
 have hA:A m.b:=(hm2.guard hm4).1 hfz
 have hrun:∃ es' clock',(Instr.mapUpdate t (ρc om) (ρc ok) (ρc ov)).run P w=.ok () (ChangeMaps.setBlock w m.b (.map es' clock'))∧es'.size=(mapPut bx.xs t0.data.toList xv).length ∧
   (∀ (k:Nat) (x:MapEntry),es'[k]?=some x→∃ t:ByteArray,x.key=.string t∧((mapPut bx.xs t0.data.toList xv).getD k .top).cells.getD 0 .top=.str t.data.toList∧t.size≤maxLen) ∧
   (∀ (k:Nat) (x:MapEntry),es'[k]?=some x→Rel w A noBox x.val (((mapPut bx.xs t0.data.toList xv).getD k .top).cells.getD 1 .top)) ∧
   (∀ (k l:Nat) (x y:MapEntry),es'[k]?=some x→es'[l]?=some y→x.key=y.key→k=l):=by
  rw [hm3,hkv]
  rcases xl6 (val:=ρc ov) (Maps.string_keyed hkt) hut hma.heap hkeys (kl:=.string t0.data.toList) (xda hkt (xes hsl)) with ⟨h1,h2⟩|⟨j0,e0,h1,h2,es',h3,h4⟩
  · have hix:=hma.miss h2
    have hp:mapPut bx.xs t0.data.toList xv=bx.xs++[.agg [.str t0.data.toList,xv]]:=by unfold mapPut;rw [hix]
    have hget:∀ (k:Nat) (x:MapEntry),(es.push ⟨.string t0,ρc ov,clock⟩)[k]?=some x→(k<es.size∧es[k]?=some x)∨(k=es.size∧x=⟨.string t0,ρc ov,clock⟩):=fun k x hx=>by
     rw [Array.getElem?_push] at hx
     split at hx
     · rename_i e;simp only [Option.some.injEq] at hx;exact .inr ⟨e,hx.symm⟩
     · rcases Nat.lt_or_ge k es.size with h|h
       · exact .inl ⟨h,hx⟩
       · simp [Array.getElem?_eq_none h] at hx
    refine ⟨_,_,h1,by rw [hp];simp [hsz'],fun k x hx=>?_,fun k x hx=>?_,fun k l x y hx hy e=>?_⟩
    · rw [hp]
      rcases hget k x hx with ⟨g1,g2⟩|⟨rfl,rfl⟩
      · obtain ⟨t',a1,a2,a3⟩:=hma.keys k x g2
        refine ⟨t',a1,?_,a3⟩
        rw [←a2]
        simp [List.getD_eq_getElem?_getD,List.getElem?_append,hsz',g1]
      · exact ⟨t0,rfl,by simp [List.getD_eq_getElem?_getD,←hsz',AV.cells],xes hsl⟩
    · rw [hp]
      rcases hget k x hx with ⟨g1,g2⟩|⟨rfl,rfl⟩
      · have:=hma.vals k x g2
        simpa [List.getD_eq_getElem?_getD,List.getElem?_append,hsz',g1] using this
      · simpa [List.getD_eq_getElem?_getD,←hsz',AV.cells] using hvn
    · rcases hget k x hx with ⟨g1,g2⟩|⟨rfl,rfl⟩<;>rcases hget l y hy with ⟨g3,g4⟩|⟨rfl,rfl⟩
      · exact hma.apart k l x y g2 g4 e
      · exact absurd e (h2 x (List.mem_of_getElem? (by simpa using g2)))
      · exact absurd e.symm (h2 y (List.mem_of_getElem? (by simpa using g4)))
      · rfl
  · obtain ⟨hix,hjl⟩:=hma.hit h1 h2
    have hp:mapPut bx.xs t0.data.toList xv=bx.xs.set j0 (.agg [.str t0.data.toList,xv]):=by unfold mapPut;rw [hix]
    have hget:∀ (k:Nat) (x:MapEntry),es'[k]?=some x→(k≠j0∧es[k]?=some x)∨(k=j0∧x={ e0 with key:=.string t0,val:=ρc ov }):=fun k x hx=>by
     rw [←Array.getElem?_toList,h3,List.getElem?_set] at hx
     split at hx
     · rename_i e
       subst e
       split at hx
       · simp only [Option.some.injEq] at hx;exact .inr ⟨rfl,hx.symm⟩
       · simp at hx
     · rename_i e
       exact .inl ⟨fun e'=>e e'.symm,by simpa using hx⟩
    refine ⟨_,_,h4,by rw [hp,←Array.length_toList,h3];simp [hsz'],fun k x hx=>?_,fun k x hx=>?_,fun k l x y hx hy e=>?_⟩
    · rw [hp]
      rcases hget k x hx with ⟨g1,g2⟩|⟨rfl,rfl⟩
      · obtain ⟨t',a1,a2,a3⟩:=hma.keys k x g2
        refine ⟨t',a1,?_,a3⟩
        rw [←a2]
        simp [List.getD_eq_getElem?_getD,List.getElem?_set,show ¬ j0=k from fun e=>g1 e.symm]
      · exact ⟨t0,rfl,by simp [List.getD_eq_getElem?_getD,hjl,AV.cells],xes hsl⟩
    · rw [hp]
      rcases hget k x hx with ⟨g1,g2⟩|⟨rfl,rfl⟩
      · have:=hma.vals k x g2
        simpa [List.getD_eq_getElem?_getD,List.getElem?_set,show ¬ j0=k from fun e=>g1 e.symm] using this
      · simpa [List.getD_eq_getElem?_getD,hjl,AV.cells] using hvn
    · have hj0:es[j0]?=some e0:=by simpa using h1
      have hk0:∀ (k:Nat) (x:MapEntry),es'[k]?=some x→∃ y:MapEntry,es[k]?=some y∧y.key=x.key:=fun k x hx=>by
       rcases hget k x hx with ⟨g1,g2⟩|⟨rfl,rfl⟩
       · exact ⟨x,g2,rfl⟩
       · exact ⟨e0,hj0,h2⟩
      obtain ⟨x',a1,a2⟩:=hk0 k x hx
      obtain ⟨y',b1,b2⟩:=hk0 l y hy
      exact hma.apart k l x' y' a1 b1 (by rw [a2,b2,e])
 obtain ⟨es',clock',r1,r2,r3,r4,r5⟩:=hrun
 have hlen:=xl5 (xs:=bx.xs) (s:=t0.data.toList) (v:=xv)
 have hblk:(ChangeMaps.setBlock w m.b (.map es' clock')).heap[m.b]?=some (.map es' clock'):=by
  simp [ChangeMaps.setBlock,hm2.lt hm4]
 have hoth:∀ b,b≠m.b→(ChangeMaps.setBlock w m.b (.map es' clock')).heap[b]?=w.heap[b]?:=fun b hb=>by
  simp [ChangeMaps.setBlock,Array.getElem?_setIfInBounds,Ne.symm hb]
 have hss:(ChangeMaps.setBlock w m.b (.map es' clock')).heap.size=w.heap.size:=by simp [ChangeMaps.setBlock]
 have hkeep:∀ b,b<w.heap.size→¬ A b→(ChangeMaps.setBlock w m.b (.map es' clock')).heap[b]?=w.heap[b]?:=fun b _ hb=>hoth b fun e=>hb (e▸hA)
 have hnlt:n<H.length:=xbj hb1
 have hR':HR (ChangeMaps.setBlock w m.b (.map es' clock')) A M B (H.set n ⟨ver,2,bx.ty,mapPut bx.xs t0.data.toList xv,false,true⟩):=by
  refine hR.rebuild (fun k=>k=n) (fun k hk _=>List.getElem?_set_ne (fun e=>hk e.symm)) (fun _ _=>rfl) (fun x m0 hx h0 c0=>⟨hoth _ fun e=>hx ?_,fun h=>h⟩) hkeep (by rw [hss];exact Nat.le_refl _) (fun _ _ h=>h) (MExt.refl M) (fun x m0 hx h0=>?_) (fun x m1 x' m2 _ h1 h2 c1 c2 he=>hR.inj x x' m1 m2 h1 h2 c1 c2 he) (fun b hb=>by rw [hss];exact hR.lt b hb)
  · have:=hR.inj x (.b n) m0 m h0 hm1 c0 hm4 e
    rw [this];rfl
  · cases x with
    | b k =>
     have hx:k=n:=hx
     subst hx
     rw [hm1] at h0
     simp only [Option.some.injEq] at h0
     subst h0
     have hty:isMapT m.ty=true:=by
      rw [←hm2.ty]
      unfold rty
      split
      · rw [hb3];exact hb3
      · exact hb3
     refine ⟨⟨ver,2,bx.ty,mapPut bx.xs t0.data.toList xv,false,true⟩,by rw [xaK];exact List.getElem?_set_self hnlt,hb2.symm.trans hm2.ver,hsz.symm,hm2.ty,hm2.capm,?_,fun y hy=>?_,hm2.low,fun h0=>by rw [hss];exact hm2.lt h0,fun h0=>?_,fun _=>⟨fun _=>hA,fun _=>rfl⟩⟩
     · show (mapPut bx.xs t0.data.toList xv).length≤m.cap
       rw [hcap]
       unfold strMax at hroom
       unfold maxLen
       omega
     · rw [hsz]
       have hnew:(AV.agg [.str t0.data.toList,xv]).okElem 2=true:=xih hone
       have hy:y∈mapPut bx.xs t0.data.toList xv:=hy
       unfold mapPut at hy
       split at hy
       · rcases List.mem_or_eq_of_mem_set hy with hy|rfl
         · rw [←hsz];exact hm2.ok y hy
         · exact hnew
       · rcases List.mem_append.1 hy with hy|hy
         · rw [←hsz];exact hm2.ok y hy
         · simp only [List.mem_singleton] at hy;subst hy;exact hnew
     · let c':Array Value:=Array.ofFn (n:=maxLen*2) fun k=>match es'[k.val / 2]? with
        | some x=>if k.val % 2=0 then x.key else x.val
        | none=>undef
       have hle:es'.size≤maxLen:=by
        rw [r2]
        unfold strMax at hroom
        unfold maxLen
        omega
       have hkx:∀ (k:Nat) (x:MapEntry),es'[k]?=some x→k<es'.size:=fun k x hx=>by
        rcases Nat.lt_or_ge k es'.size with h|h
        · exact h
        · simp [Array.getElem?_eq_none h] at hx
       have hc':∀ (k:Nat) (x:MapEntry),es'[k]?=some x→c'.getD (k*m.sz) undef=x.key∧c'.getD (k*m.sz+1) undef=x.val:=fun k x hx=>by
        have hk:=hkx k x hx
        rw [hsz]
        have e1:k*2<maxLen*2:=by omega
        have e2:k*2+1<maxLen*2:=by omega
        constructor
        · rw [Array.getD_eq_getD_getElem?,Array.getElem?_ofFn,dif_pos e1]
          simp only [Option.getD_some,Nat.mul_div_cancel _ (by omega:0<2),hx,Nat.mul_mod_left,if_true]
        · rw [Array.getD_eq_getD_getElem?,Array.getElem?_ofFn,dif_pos e2]
          have d1:(k*2+1) / 2=k:=by omega
          have d2:¬ (k*2+1) % 2=0:=by omega
          simp only [Option.getD_some,d1,hx,d2,if_false]
       refine ⟨c',?_,by rw [hcap,hsz];exact Array.size_ofFn,fun i j hi hj=>?_⟩
       · unfold HoldsC
         rw [hty]
         exact ⟨es',clock',hblk,r2,hcap,hc',fun k x hx=>by obtain ⟨t',a1,_,a3⟩:=r3 k x hx;exact ⟨t',a1,a3⟩,r5⟩
       · have hi':i<es'.size:=by rw [r2];exact hi
         obtain ⟨x,hx⟩:∃ x,es'[i]?=some x:=⟨es'[i],by simp [hi']⟩
         rw [hsz] at hj
         have hsl:∀ j,j<2→isSlot bx.ty j=false:=fun j hj=>by
          rcases j with _|_|j
          · exact hb4
          · exact hb5
          · omega
         unfold MV viewC
         simp only [hsl j hj]
         show Rel _ A noBox _ _
         have hgrow:∀ {v:Value} {x:AV},Rel w A noBox v x→Rel (ChangeMaps.setBlock w m.b (.map es' clock')) A noBox v x:=fun h=>h.mono hkeep (by rw [hss];exact Nat.le_refl _) (fun _ _ h=>h) (MExt.refl _)
         rcases j with _|_|j
         · rw [Nat.add_zero,(hc' i x hx).1]
           obtain ⟨t',a1,a2,_⟩:=r3 i x hx
           show Rel _ A noBox _ (((mapPut bx.xs t0.data.toList xv).getD i .top).cells.getD 0 .top)
           rw [a1,a2]
           exact .str t'
         · rw [(hc' i x hx).2]
           exact hgrow (r4 i x hx)
         · omega
    | r k i' j' =>
     have hx:k=n:=hx
     subst hx
     obtain ⟨rb,k1,k2⟩:=hR.box _ m0 h0
     have hCC:isC bx.ty=true:=by
      cases hc:isC bx.ty with
      | true=>rfl
      | false=>rw [xak hc] at hb3;cases hb3
     obtain ⟨e2,e3,e4,e5⟩:=xb9 hb1 hCC k1
     have hj2:2≤j':=by
      rcases j' with _|_|j'
      · rw [hb4] at e2;cases e2
      · rw [hb5] at e2;cases e2
      · omega
     have htop:∀ (xs:List AV),(∀ x,x∈xs→x.okElem 2=true)→(xs.getD i' .top).cells.getD j' .top=.top:=fun xs hxs=>by
      rcases Nat.lt_or_ge i' xs.length with h|h
      · have:=xab (hxs _ (xad h))
        rw [List.getD_eq_getElem?_getD (l:=(xs.getD i' .top).cells),List.getElem?_eq_none (by omega)];rfl
      · have:xs.getD i' .top=.top:=by rw [List.getD_eq_getElem?_getD,List.getElem?_eq_none h];rfl
        rw [this,List.getD_eq_getElem?_getD,List.getElem?_eq_none (by simp [AV.cells];omega)];rfl
     have hok2:∀ x,x∈bx.xs→x.okElem 2=true:=fun x hx=>by rw [←hsz];exact hm2.ok x hx
     refine ⟨rb,?_,k2.mono (fun h0'=>hoth _ fun e=>?_) hkeep (by rw [hss];exact Nat.le_refl _) (fun _ _ h=>h) k2.guard (MExt.refl M)⟩
     · rw [xbw (List.getElem?_set_self hnlt) (by exact hCC) (by exact e2) rfl (by show i'<(mapPut bx.xs t0.data.toList xv).length;omega)]
       rw [e5,htop bx.xs hok2]
       have hnew:((mapPut bx.xs t0.data.toList xv).getD i' .top).cells.getD j' .top=.top:=htop _ fun y hy=>by
        have hnew:(AV.agg [.str t0.data.toList,xv]).okElem 2=true:=xih hone
        unfold mapPut at hy
        split at hy
        · rcases List.mem_or_eq_of_mem_set hy with hy|rfl
          · exact hok2 y hy
          · exact hnew
        · rcases List.mem_append.1 hy with hy|hy
          · exact hok2 y hy
          · simp only [List.mem_singleton] at hy;subst hy;exact hnew
       have e6:rowBox ⟨ver,2,bx.ty,mapPut bx.xs t0.data.toList xv,false,true⟩ .top=rowBox bx .top:=by simp [rowBox,hfz]
       exact congrArg some ((congrArg (rowBox ⟨ver,2,bx.ty,mapPut bx.xs t0.data.toList xv,false,true⟩) hnew).trans e6)
     · have:=hR.inj _ (.b k) m0 m h0 hm1 h0' hm4 e
       cases this
 refine ⟨.skip,ChangeMaps.setBlock w m.b (.map es' clock'),A,M,undef,?_,.inr ⟨rfl,rfl⟩,⟨rfl,rfl,rfl,by rw [hss];exact Nat.le_refl _,fun k hk=>hoth k fun e=>by have:=hm2.low hm4;omega⟩,MExt.refl M,fun _ _=>Iff.rfl,hkeep,⟨fun b _ hb=>hoth b fun e=>hb (.b n) m hm1 hm4 e.symm,fun id m' h h0=>.inl ⟨id,m',h,h0,rfl⟩⟩,hR',.tuple #[] [] rfl (by simp)⟩
 rcases ho with ho|ho<;>simp only [execOp,ho,Sem.run_bind,r1,Result.andThen_ok,Sem.run_pure]
theorem xiT (hR:HR w A M B H) (hB:B≤w.heap.size) {o:Oper} {ρc:Operand→Value} {t:TypeId} {r:AV} {H':List Box} (ho:o.op=.makeMap t none) (h:absMakeM P H t=some (r,H')) :
  Writes P o ρc w A M B r H':=by
 unfold absMakeM at h
 split at h
 case h_2=>simp at h
 rename_i kt et hut
 split at h
 case h_2=>simp at h
 rename_i hkt
 split at h
 case isFalse=>simp at h
 rename_i hc0
 obtain ⟨hmt,hCC⟩:=hc0
 simp only [Option.some.injEq,Prod.mk.injEq] at h
 obtain ⟨rfl,rfl⟩:=h
 have hn:Free M H.length:=hR.free_of_length (Nat.le_refl _)
 have hbel:=xbX w (.map #[] 0)
 have hrty:rty (mapTy t)=mapTy t:=by unfold rty;rw [hCC,hmt]
 let m:MB:=⟨w.heap.size,0,2,maxLen,mapTy t⟩
 have hext:MExt M (MPut M H.length m):=xdr hn m
 have hA:∀ b,b<w.heap.size→(APut A w.heap.size false b→A b):=fun b hb h=>by
  rcases h with h|⟨h,_⟩
  · exact h
  · omega
 have hnew:MPut M H.length m (.b H.length)=some m:=by simp [MPut]
 have hHn:(H++[⟨0,2,mapTy t,[],false,true⟩])[H.length]?=some ⟨0,2,mapTy t,[],false,true⟩:=by simp
 have hMo:∀ x:Id,x≠.b H.length→MPut M H.length m x=M x:=fun x hx=>by simp [MPut,hx]
 have hR':HR (w.alloc (.map #[] 0)) (APut A w.heap.size false) (MPut M H.length m) B (H++[⟨0,2,mapTy t,[],false,true⟩]):=by
  refine hR.rebuild (fun k=>k=H.length) (fun k hk hlt=>List.getElem?_append_left hlt) (fun x hx=>hMo x fun e=>hx (by rw [e];rfl)) (fun x m0 hx h0 c0=>?_) (fun b hb _=>hbel.block b hb) hbel.size hA hext (fun x m0 hx h0=>?_) (fun x m1 x' m2 hx h1 h2 c1 c2 he=>?_) (fun b hb=>?_)
  · obtain ⟨bx,_,k2⟩:=hR.box x m0 h0
    exact ⟨hbel.block _ (k2.lt c0),.inl⟩
  · cases x with
    | b k =>
     have hx:k=H.length:=hx
     subst hx
     rw [hnew] at h0
     simp only [Option.some.injEq] at h0
     subst h0
     refine ⟨_,hHn,rfl,rfl,hrty,Nat.le_refl _,Nat.zero_le _,fun y hy=>by simp at hy,fun _=>hB,fun _=>by simp [m],fun _=>⟨Array.replicate (maxLen*2) undef,?_,by simp [m],fun i j hi _=>by simp at hi⟩,fun _=>⟨fun _=>.inr ⟨rfl,rfl⟩,fun _=>rfl⟩⟩
     unfold HoldsC
     show match isMapT (mapTy t) with|false=>_|true=>_
     rw [hmt]
     exact ⟨#[],0,heap_alloc_new w _,rfl,rfl,fun k x hx=>by simp at hx,fun k x hx=>by simp at hx,fun k l x y hx=>by simp at hx⟩
    | r k i j =>
     have hx:k=H.length:=hx
     subst hx
     have:MPut M H.length m (.r H.length i j)=M (.r H.length i j):=by simp [MPut]
     rw [this,hn.2] at h0
     cases h0
  · have hx1:x=.b H.length:=by
     cases x with
     | b k=>have hx:k=H.length:=hx;rw [hx]
     | r k i j =>
      have hx:k=H.length:=hx
      subst hx
      have:MPut M H.length m (.r H.length i j)=M (.r H.length i j):=by simp [MPut]
      rw [this,hn.2] at h1
      cases h1
    subst hx1
    rw [hnew] at h1
    simp only [Option.some.injEq] at h1
    subst h1
    by_cases hx':x'=.b H.length
    · exact hx'.symm
    · have h2':M x'=some m2:=by simpa [MPut,hx'] using h2
      obtain ⟨bx',_,h3⟩:=hR.box x' m2 h2'
      have:=h3.lt c2
      rw [←he] at this
      simp [m] at this
  · rcases hb with hb|⟨rfl,_⟩
    · have:=hR.lt b hb;simp;omega
    · simp
 refine ⟨.value (.map (some w.heap.size)),w.alloc (.map #[] 0),APut A w.heap.size false,MPut M H.length m,.map (some w.heap.size),?_,.inl rfl,⟨rfl,rfl,rfl,hbel.size,fun k hk=>hbel.block k (Nat.lt_of_lt_of_le hk hB)⟩,hext,fun b hb=>⟨hA b hb,.inl⟩,fun b hb _=>hbel.block b hb,Touch.of_new hbel (fun id m' h=>?_),hR',.own _ (.b H.length) 0 0 0 m hnew (Nat.le_refl _) rfl fun _=>?_⟩
 · simp [execOp,ho,Instr.makeMap]
 · by_cases hid:id=.b H.length
   · subst hid
     rw [hnew] at h
     simp only [Option.some.injEq] at h
     subst h
     exact .inr (Nat.le_refl _)
   · exact .inl (by simpa [MPut,hid] using h)
 · unfold ptrOf
   show _=match isMapT (mapTy t) with|true=>_|false=>_
   rw [hmt]
   rfl
end
end
section
variable {P : Program} {w : World} {A : Nat → Prop} {M : Id → Option MB} {B : Nat} {H : List Box}
def iop (P:Program) (ρ:Operand→AV) (H:List Box) (op:Op):Option (AV×List Box) :=
 match op with
 | .store t a v=>match mkd H (ρ a) with
  | true=>match absAdopt P H t (ρ a) (ρ v) with
   | some H'=>some (.tuple [],H')
   | none=>none
  | false=>match absStore P H t (ρ a) (ρ v) with
   | some H'=>some (.tuple [],H')
   | none=>none
 | .call c=>match c.callee with
  | .builtin b=>match b,c.argTypes.toList,c.args.toList with
   | .append,[t,t'],[s,x]=>match isRowRef (ρ s) with
    | true=>absTake P H t t' (ρ s) (ρ x)
    | false=>match mkd H (ρ s) with
     | true=>absAppC P H t t' (ρ s) (ρ x)
     | false=>absAppend P H t t' (ρ s) (ρ x)
   | .clear,[t],[x]=>match absClear P H t (ρ x) with
    | some H'=>some (.tuple [],H')
    | none=>none
   | _,_,_=>none
  | _=>none
 | .lookup t m k c=>match absLookM P H t (ρ m) (ρ k) c with
  | some r=>some (r,H)
  | none=>none
 | .mapUpdate t m k v=>match absPutM P H t (ρ m) (ρ k) (ρ v) with
  | some H'=>some (.tuple [],H')
  | none=>none
 | .makeMap t r=>match r with
  | none=>absMakeM P H t
  | some _=>none
 | _=>none
theorem xkT (hR:HR w A M B H) (hB:B≤w.heap.size) {ρ:Operand→AV} {ρc:Operand→Value} {o:Oper} {x:AV} {H':List Box} (hρ:∀ a,Rel w A M (ρc a) (ρ a)) (h:iop P ρ H o.op=some (x,H')):Writes P o ρc w A M B x H':=by
 unfold iop at h
 split at h
 · rename_i t a v ho
   split at h
   · split at h
     case h_2=>simp at h
     rename_i H2 hst
     simp only [Option.some.injEq,Prod.mk.injEq] at h;obtain ⟨rfl,rfl⟩:=h
     exact xiH hR ho (hρ a) (hρ v) hst
   · split at h
     case h_2=>simp at h
     rename_i H2 hst
     simp only [Option.some.injEq,Prod.mk.injEq] at h;obtain ⟨rfl,rfl⟩:=h
     exact xi3 hR ho (hρ a) (hρ v) hst
 · rename_i c ho
   split at h
   case h_2=>simp at h
   rename_i b hcal
   split at h
   · rename_i t t' s y hts has
     split at h
     · exact xj3 hR hB ho hcal hts has (hρ s) (hρ y) h
     · split at h
       · exact xjs hR hB ho hcal hts has (hρ s) (hρ y) h
       · exact xeU hR hB ho hcal hts has (hρ s) (hρ y) h
   · rename_i t x hts has
     split at h
     case h_2=>simp at h
     rename_i H2 hst
     simp only [Option.some.injEq,Prod.mk.injEq] at h;obtain ⟨rfl,rfl⟩:=h
     exact xiN hR ho hcal hts has (hρ x) hst
   · simp at h
 · rename_i t m k c ho
   split at h
   case h_2=>simp at h
   rename_i r hst
   simp only [Option.some.injEq,Prod.mk.injEq] at h;obtain ⟨rfl,rfl⟩:=h
   exact xjL hR ho (hρ m) (hρ k) hst
 · rename_i t m k v ho
   split at h
   case h_2=>simp at h
   rename_i H2 hst
   simp only [Option.some.injEq,Prod.mk.injEq] at h;obtain ⟨rfl,rfl⟩:=h
   exact xjQ hR (.inl ho) (hρ m) (hρ k) (hρ v) hst
 · rename_i t r ho
   split at h
   · exact xiT hR hB ho h
   · simp at h
 · simp at h
end
def absAppE (P:Program) (H:List Box) (nid:Nat) (t tt:TypeId) (s x:AV):Option (AV×Option Box) :=
 match s with
 | .empt=>match tinfo P t with
  | some ti=>match ti.d with
   | .slice e=>match tinfo P e with
    | some te=>match absSrc P H t tt e te.sz x with
     | some (ys,pm)=>if 0<te.sz∧ys.length*te.bytes≤140737488355328∧ys.length≤strMax∧te.zero.okElem te.sz=true then some (.osl nid 0 0 ys.length,some ⟨0,te.sz,e,ys,false,pm⟩) else none
     | none=>none
    | none=>none
   | _=>none
  | none=>none
 | _=>none
section
variable {P : Program} {w : World} {A : Nat → Prop} {M : Id → Option MB} {B : Nat} {H : List Box} {nid : Nat}
theorem HR.virtAt (hR:HR w A M B H) (hn:Free M nid) {bx:Box} (hH:H[nid]?=some bx) (hx:bx.xs=[]) (hpl:isC bx.ty=false) :
  MExt M (MPut M nid ⟨0,bx.ver,bx.sz,0,bx.ty⟩)∧NewId w M (MPut M nid ⟨w.heap.size,bx.ver,bx.sz,0,bx.ty⟩) nid∧HR w A (MPut M nid ⟨w.heap.size,bx.ver,bx.sz,0,bx.ty⟩) B H∧MPut M nid ⟨w.heap.size,bx.ver,bx.sz,0,bx.ty⟩ nid=some ⟨w.heap.size,bx.ver,bx.sz,0,bx.ty⟩∧MExt M (MPut M nid ⟨w.heap.size,bx.ver,bx.sz,0,bx.ty⟩):=by
 have hext:MExt M (MPut M nid ⟨w.heap.size,bx.ver,bx.sz,0,bx.ty⟩):=xdr hn _
 have hcase:∀ id m',MPut M nid ⟨w.heap.size,bx.ver,bx.sz,0,bx.ty⟩ id=some m'→0<m'.cap→M id=some m':=fun id m' hm h0=>by
  by_cases hid:id=.b nid
  · subst hid;simp [MPut] at hm;subst hm;exact absurd h0 (by simp)
  · simpa [MPut,hid] using hm
 refine ⟨xdr hn _,⟨fun id hid=>by simp [MPut,hid],fun m' hm'=>.inr (by simp [MPut] at hm';subst hm';exact Nat.le_refl _)⟩,⟨fun id m' hm'=>?_,fun id id' m1 m2 h1 h2 c1 c2 he=>hR.inj id id' m1 m2 (hcase id m1 h1 c1) (hcase id' m2 h2 c2) c1 c2 he,hR.lt⟩,by simp [MPut],hext⟩
 by_cases hid:id=.b nid
 · subst hid
   have:m'=⟨w.heap.size,bx.ver,bx.sz,0,bx.ty⟩:=by simp [MPut] at hm';exact hm'.symm
   subst this
   have hc:∀ {p:Prop},0<(0:Nat)→p:=fun h=>absurd h (by simp)
   exact ⟨bx,hH,rfl,rfl,xal hpl,Nat.zero_le _,by rw [hx];exact Nat.zero_le _,fun x hx'=>by rw [hx] at hx';simp at hx',hc,hc,hc,hc⟩
 · have hm2:M id=some m':=by simpa [MPut,hid] using hm'
   obtain ⟨bx',g1,g2⟩:=hR.box id m' hm2
   exact ⟨bx',g1,g2.mono (fun _=>rfl) (fun _ _ _=>rfl) (Nat.le_refl _) (fun _ _ h=>h) g2.guard hext⟩
theorem xjt (hR:HR w A M B H) (hB:B≤w.heap.size) (hn:Free M nid) {o:Oper} {ρc:Operand→Value} {c:Call} {t tt:TypeId} {os ox:Operand} {xs xx r:AV} {nb:Option Box} (ho:o.op=.call c) (hcal:c.callee=.builtin .append)
  (hts:c.argTypes.toList=[t,tt]) (has:c.args.toList=[os,ox]) (hs:Rel w A M (ρc os) xs) (hx:Rel w A M (ρc ox) xx) (h:absAppE P H nid t tt xs xx=some (r,nb)) (hH:∀ bx,nb=some bx→∃ f,H[nid]?=some { bx with frz:=f }) :
  Gives P o ρc w A M B H nid r:=by
 unfold absAppE at h
 split at h
 case h_2=>simp at h
 split at h
 case h_2=>simp at h
 rename_i ti hti
 split at h
 case h_2=>simp at h
 rename_i e hd
 split at h
 case h_2=>simp at h
 rename_i te hte
 split at h
 case h_2=>simp at h
 rename_i ys pm hys
 split at h
 case isFalse=>simp at h
 rename_i hc0
 obtain ⟨hpos,hby,hln,hzok⟩:=hc0
 simp only [Option.some.injEq,Prod.mk.injEq] at h;obtain ⟨rfl,rfl⟩:=h
 obtain ⟨f,hH'⟩:=hH _ rfl
 have hu:P.underlying t=some (.slice e):=by rw [xce hti,hd]
 obtain ⟨i,z,hi1,hi2,hi3,hi4,hi5,hi6,_⟩:=xaj hte
 have hpe:isC e=false:=xcm hte
 have hts':c.argTypes=#[t,tt]:=by apply Array.ext';simpa using hts
 have has':c.args=#[os,ox]:=by apply Array.ext';simpa using has
 have hrunE:∀ v w',(Builtin.append_ #[t,tt] o.type #[ρc os,ρc ox]).run P w=.ok v w'→(execOp ρc o).run P w=.ok (.value v) w':=by
  intro v w' hv
  simp [execOp,ho,resolve,hcal,hts',has',invoke,builtin,hv,Go.resolve]
 have hsv:∃ a,ρc os=.slice a 0 0:=by
  generalize ρc os=v at hs
  cases hs with|empt a=>exact ⟨a,rfl⟩
 obtain ⟨a,hsv⟩:=hsv
 rw [hsv] at hrunE
 rcases xdg hR hte hpos hu (ty:=o.type) hi1 hx hys with ⟨rfl,hz0⟩|⟨hn0,hok,news,hnl,hnr,hruns⟩
 · obtain ⟨_,g2,g3,g4,g5⟩:=hR.virtAt hn hH' rfl hpe
   exact ⟨.slice a 0 0,w,A,_,hrunE _ _ (hz0 a 0 0 (Nat.le_refl _)),Below.refl _ _,g5,fun _ _=>Iff.rfl,g2,g3,.osl _ (.b nid) 0 0 0 _ g4 (Nat.le_refl _) rfl fun _=>⟨by simp,a,by simp,fun h=>by simp at h⟩⟩
 have hsm:ys.length≤4611686018427387904:=hln
 have hrz:Rel w A M z te.zero:=by rw [hi6];exact xaG w A M z
 obtain ⟨hzc,_⟩:=hrz.cells (xag hzok)
 have hzl:=xab hzok
 have hrun:(Builtin.append_ #[t,tt] o.type #[.slice a 0 0,ρc ox]).run P w=.ok (.slice (some ⟨w.heap.size,0,none⟩) ys.length (grownCap w ys.length 0 e)) (w.drew.alloc (.cells (news.toArray++Builtin.zeroCells z.cells (grownCap w ys.length 0 e - ys.length)) e)):=by
  have R:=hruns i z hi1 hi3 hi4.symm
  cases a with
  | none=>exact R.nil (by omega) (by rw [←hi5];omega)
  | some b =>
   have:=R.grow b 0 0 [] (by simp) (fun j u hj=>by simp at hj) (by omega) (by omega) (growslice_fits (by omega) (by rw [←hi5];simpa using hby))
   simpa using this
 have hge:=grownCap_ge w ys.length 0 e
 have hcm:=grownCap_le_maxLen w ys.length 0 e (by unfold maxLen;omega)
 generalize hcap:grownCap w ys.length 0 e=cap at hrun hge hcm
 have hzsz:(Builtin.zeroCells z.cells (cap - ys.length)).size=(cap - ys.length)*te.sz:=by rw [size_zeroCells];congr 1;omega
 have hst:=xc7 (bx:=⟨0,te.sz,e,ys,f,pm⟩) (nid:=nid) (c:=news.toArray++Builtin.zeroCells z.cells (cap - ys.length)) (cap:=cap) hR.drew (by simpa using hB) hn hpe hH' hcm
  (by rw [Array.size_append,List.size_toArray,hnl,hzsz,←Nat.add_mul];congr 1;omega) hge hok
  (fun i' j hi' hj=>by
   have hk:i'*te.sz+j<ys.length*te.sz:=xaD hi' hj
   have e1:(news.toArray++Builtin.zeroCells z.cells (cap - ys.length)).getD (i'*te.sz+j) undef=news.getD (i'*te.sz+j) undef:=by
    simp only [Array.getD_eq_getD_getElem?,Array.getElem?_append,List.size_toArray,hnl,hk,if_true,List.getElem?_toArray,List.getD_eq_getElem?_getD]
   rw [e1]
   exact (hnr _ _ hi' hj).grow ⟨rfl,rfl,rfl,Nat.le_refl _,fun _ _=>rfl⟩)
 obtain ⟨s1,s2,s3,s4,s5⟩:=hst
 have hbel:Below w.heap.size w (w.drew.alloc (.cells (news.toArray++Builtin.zeroCells z.cells (cap - ys.length)) e)):=((Below.refl _ _).drew).alloc (by simp) _
 exact ⟨_,_,_,_,hrunE _ _ hrun,hbel,s1,s2,s3,s4,.osl _ (.b nid) 0 0 ys.length _ s5 (Nat.le_refl _) rfl fun _=>⟨by simpa using hge,some ⟨w.heap.size,0,none⟩,by simp,fun _=>by simp⟩⟩
end
theorem xlX {P:Program} {w:World} {A:Nat→Prop} {M:Id→Option MB} {B:Nat} {H:List Box} {nid:Nat} {o:Oper} {ρc:Operand→Value} {e:TypeId} {v:Value} {x:AV} (hR:HR w A M B H) (hv:Rel w A M v x) (hone:x.cells.all AV.one=true) (hp:x.pure=true)
  (hrun:(execOp ρc o).run P w=.ok (.value (.pointer (some ⟨w.heap.size,0,none⟩))) (w.alloc (.cells v.cells e))):Gives P o ρc w A M B H nid (.eptr x.cells.length [x] 0 0):=by
 obtain ⟨h1,h2⟩:=hv.cells hone
 have hbel:=xbX w (.cells v.cells e)
 have hnA:¬ A w.heap.size:=fun h=>Nat.lt_irrefl _ (hR.lt _ h)
 have:=Rel.eptr (w:=w.alloc (.cells v.cells e)) (A:=A) (M:=M) w.heap.size 0 x.cells.length [x] 0 0 (fun _ j=>v.cells.getD j undef) hnA (by simp) (by simp)
  (fun y hy=>by simp only [List.mem_singleton] at hy;subst hy;simp only [AV.okElem,beq_self_eq_true,Bool.true_and];exact hone)
  (fun i j hi hj=>by
   have hi0:i=0:=by simpa using hi
   subst hi0
   have hj':j<v.cells.size:=by rw [h1];exact hj
   have hb:(w.alloc (.cells v.cells e)).heap[w.heap.size]?=some (.cells v.cells e):=heap_alloc_new w _
   rw [Nat.zero_mul,Nat.zero_add]
   unfold World.cell?
   simp only [hb]
   simp [hj'])
  (fun i j hi hj=>by
   have hi0:i=0:=by simpa using hi
   subst hi0
   exact ((h2 j hj).pure (xbp (xcB hp) j)).grow hbel)
 exact ⟨_,w.alloc (.cells v.cells e),A,M,hrun,hbel,MExt.refl M,fun _ _=>Iff.rfl,⟨fun _ _=>rfl,fun _ h=>.inl h⟩,hR.grow hbel,by simpa using this⟩
def fopE (P:Program) (ρ:Operand→AV) (H:List Box) (nid:Nat) (op:Op):Option (AV×Option Box) :=
 match op with
 | .buildSlice t len parts=>match len,parts.toList with
  | 0,[]=>match tinfo P t with
   | some ti=>match ti.d with
    | .slice e=>match tinfo P e with
     | some _=>some (.empt,none)
     | none=>none
    | _=>none
   | none=>none
  | _,_=>none
 | .call c=>match c.callee with
  | .builtin b=>match b,c.argTypes.toList,c.args.toList with
   | .append,[t,t'],[s,x]=>absAppE P H nid t t' (ρ s) (ρ x)
   | _,_,_=>none
  | _=>none
 | .box _ x=>if (ρ x).cells.all AV.one=true∧(ρ x).pure=true then some (.eptr (ρ x).cells.length [ρ x] 0 0,none) else none
 | _=>none
theorem xlr {P:Program} {ρ:Operand→AV} {H:List Box} {n n':Nat} {op:Op} {x:AV} (h:fopE P ρ H n op=some (x,none)):fopE P ρ H n' op=some (x,none):=by
 unfold fopE at h ⊢
 split at h
 · exact h
 · split at h
   · split at h
     · exfalso
       unfold absAppE at h
       repeat' split at h
       all_goals simp at h
     · simp at h
   · simp at h
 · exact h
 · simp at h
theorem xjE {P:Program} {w:World} {A:Nat→Prop} {M:Id→Option MB} {B:Nat} {H:List Box} {nid:Nat} {ρ:Operand→AV} {ρc:Operand→Value} {o:Oper} {x:AV} {nb:Option Box} (hf:fopE P ρ H nid o.op=some (x,nb)) (hρ:∀ a,a∈o.op.operands.toList→Rel w A M (ρc a) (ρ a))
  (hR:HR w A M B H) (hB:B≤w.heap.size) (hn:Free M nid) (hH:∀ bx,nb=some bx→∃ f,H[nid]?=some { bx with frz:=f }):Gives P o ρc w A M B H nid x:=by
 unfold fopE at hf
 split at hf
 · rename_i t len parts ho
   split at hf
   case h_2=>simp at hf
   rename_i hparts
   split at hf
   case h_2=>simp at hf
   rename_i ti hti
   split at hf
   case h_2=>simp at hf
   rename_i e hd
   split at hf
   case h_2=>simp at hf
   rename_i te hte
   simp only [Option.some.injEq,Prod.mk.injEq] at hf;obtain ⟨rfl,rfl⟩:=hf
   have hp0:parts=#[]:=by apply Array.ext';simpa using hparts
   subst hp0
   have hu2:P.underlying t=some (.slice e):=by rw [xce hti,hd]
   obtain ⟨i,z,hi1,hi2,hi3,hi4,_⟩:=xaj hte
   have hrun:(Instr.buildSlice t 0 #[]).run P w=.ok (.slice (some ⟨w.heap.size,0,none⟩) 0 0) (w.alloc (.cells #[] e)):=by
    simp [Instr.buildSlice,run_underlying hu2,sizeOf,typeInfo,hi1,Go.newRow,zeroValue,hi3,Instr.fill,show Array.range 0=#[] from rfl]
   have hbel:=xbX w (.cells #[] e)
   refine ⟨.slice (some ⟨w.heap.size,0,none⟩) 0 0,w.alloc (.cells #[] e),A,M,?_,hbel,MExt.refl M,fun _ _=>Iff.rfl,⟨fun _ _=>rfl,fun _ h=>.inl h⟩,hR.grow hbel,.empt _⟩
   simp only [execOp,ho,List.map_toArray,List.map_nil,Array.map_empty,Sem.run_bind,hrun,Result.andThen_ok,Sem.run_pure]
 · rename_i c ho
   split at hf
   case h_2=>simp at hf
   rename_i b hcal
   split at hf
   · rename_i t t' s y hts has
     have hops:∀ a,a∈c.args.toList→Rel w A M (ρc a) (ρ a):=fun a ha=>hρ a (by simp [ho,Op.operands,Call.operands,hcal];simpa using ha)
     exact xjt hR hB hn ho hcal hts has (hops s (by rw [has];simp)) (hops y (by rw [has];simp)) hf hH
   · simp at hf
 · rename_i e a ho
   split at hf
   case isFalse=>simp at hf
   rename_i hc
   obtain ⟨hone,hp⟩:=hc
   simp only [Option.some.injEq,Prod.mk.injEq] at hf;obtain ⟨rfl,rfl⟩:=hf
   exact xlX (e:=e) hR (hρ a (by simp [ho,Op.operands])) hone hp (by simp [execOp,ho,Instr.box,newVar,Go.newRow])
 · simp at hf
end Go.Sim
end
