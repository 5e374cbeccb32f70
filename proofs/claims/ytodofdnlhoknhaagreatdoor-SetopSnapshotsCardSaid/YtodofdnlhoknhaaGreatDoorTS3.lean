/- Part 3. -/
import Derived.Test.YtodofdnlhoknhaaGreatDoorTS2
import Derived.Laws.OwnMore
import Derived.Laws.Append
import Derived.Laws.AppendOwn
import Derived.Lib.AppendStr
import Derived.Tactics
import Derived.LoopN
set_option linter.all false
noncomputable section
namespace Go.Sim
open Go.RowKit
mutual
def AV.flat:AV->Bool|.agg cs=>AV.flats cs|.list _ _=>false|.eptr _ _ _ _=>false|.own _ _ _ _=>false|.osl _ _ _ _=>false|.func f cs=>(match Nat.beq f vpF with|true=>false|false=>AV.flats cs)|.tuple vs=>AV.flats vs|.top=>true|.bool _=>true|.int _ _=>true|.str _=>true|.nils=>true|.nilptr=>true|.nilfn=>true|.empt=>true|.gptr _=>true|.yld _=>true
def AV.flats:List AV->Bool|[]=>true|x::xs=>AV.flat x&&AV.flats xs
end
def Vq:∀xs:List AV,AV.flats xs=xs.all AV.flat|[]=>by simp[AV.flats]|x::xs=>by simp[AV.flats,Vq xs]
variable {xs:List AV}
def RO(h:AV.flats xs)(i:Nat):(xs.getD i .top).flat:=by rw[Vq,zI]at h;by_cases hi:i<xs.length;simp only[z7,ze hi,zh];exact h _ (zo _);simp[z7,zz (Nat.le_of_not_lt hi),AV.flat]
variable {x:AV}
def aD.flat{w w':World}{A A':Nat->Prop}{M M':Id->Option MB}{v:Value}(h:aD w A M v x):x.flat->aD w' A' M' v x:=by induction h generalizing M' with|top v=>intro _;exact .top v|bool b=>intro _;exact .bool b|int k n=>intro _;exact .int k n|str s=>intro _;exact .str s|agg vs cs h hr ih=>intro hp;exact .agg vs cs h λ i hi=>ih i hi (RO (by simpa[AV.flat]using hp) i)|nils=>intro _;exact .nils|list0 a cap sz=>intro _;exact .list0 a cap sz|list b off cap sz xs val ha hb hne hcap hsz hc hr ih=>intro hp;simp[AV.flat]at hp|eptr b off sz xs i0 j0 val ha hb hi hsz hc hr ih=>intro hp;simp[AV.flat]at hp|own v id ver i j m hm hv h1 he=>intro hp;simp[AV.flat]at hp|osl v id ver off len m hm hv h1 he=>intro hp;simp[AV.flat]at hp|nilptr=>intro _;exact .nilptr|func f vs cs h hr hf ih=>(intro hp;cases hv:Nat.beq f vpF with|true=>simp[AV.flat,hv]at hp|false=>exact .func f vs cs h (λ i hi=>ih i hi (RO (by simpa[AV.flat,hv]using hp) i)) hf)|vptr b off v0 x ha hb hc hr ih=>intro hp;exact absurd hp (by simp[AV.flat,vpF])|nilfn=>intro _;exact .nilfn|nmap=>intro _;exact .nmap|empt a=>intro _;exact .empt a|tuple vs cs h hr ih=>intro hp;exact .tuple vs cs h λ i hi=>ih i hi (RO (by simpa[AV.flat]using hp) i)|gptr g=>intro _;exact .gptr g|yld g=>intro _;exact .yld g
def eJ(r:AV->Option AV):List AV->Option (List AV)|[]=>some []|x::xs=>match r x,eJ r xs with|some y,some ys=>some (y::ys)|_,_=>none
def lK(r:AV->Option AV):AV->Option AV|.agg cs=>(match eJ r cs with|some ds=>some (.agg ds)|none=>none)|x=>r x
def gh(pm:Bool)(r:AV->Option AV)(xs:List AV):Option (List AV):=if pm then some xs else eJ (lK r) xs
def AV.toList:AV->List AV|.list _ xs=>xs|_=>[]
def jW(sz:Nat):AV->Bool|.list z _=>Nat.beq z sz|_=>false
def yZ(sz j:Nat)(q:List AV):Bool:=q.all λ x=>jW sz (x.cells.getD j .top)
def en(bx:aC)(q:List AV):Bool:=match bW bx.ty with|false=>true|true=>bx.pm&&yZ (fF bx.ty) (jP bx.ty) q
def resolve(H:List aC):Nat->AV->Option AV
 |0,x=>if x.pure then some x else none
 |n+1,x=>
 if x.pure then some x else
  match x with
  | .agg cs=>match eJ (resolve H n) cs with|some ds=>some (.agg ds)|none=>none
  | .func f cs=>match Nat.beq f vpF with
   | true=>none
   | false=>match eJ (resolve H n) cs with|some ds=>some (.func f ds)|none=>none
  | .own id ver i j=>match dW H id ver with
   | some bx=>match gh bx.pm (resolve H n) bx.xs with
    | some ys=>if i<bx.xs.length/\bW bx.ty=false then some (.eptr bx.sz ys i j)else none
    | none=>none
   | none=>none
  | .osl id ver off len=>match dW H id ver with
   | some bx=>match gh bx.pm (resolve H n) ((bx.xs.drop off).take len)with
    | some ys=>if off+len<=bx.xs.length/\en bx ((bx.xs.drop off).take len) then some (.list bx.sz ys)else none
    | none=>none
   | none=>none
  | _=>none
def aQ(H:List aC):Nat->AV->List Nat
 |0,_=>[]
 |n+1,x=>
 if x.pure then[]else
  match x with
  | .agg cs=>cs.flatMap (aQ H n)
  | .func _ cs=>cs.flatMap (aQ H n)
  | .own id _ _ _=>id.base::(match getB H id with|some bx=>if bx.pm then[]else bx.xs.flatMap λ(e:AV)=>e.cells.flatMap (aQ H n)|none=>[])
  | .osl id _ off len=>id.base::(match getB H id with|some bx=>if bx.pm then[]else((bx.xs.drop off).take len).flatMap λ(e:AV)=>e.cells.flatMap (aQ H n)|none=>[])
  | _=>[]
variable {i:Nat}
def jA(hi:i<xs.length):xs.getD i .top∈xs:=by simp only[z7,ze hi,zh];exact zo _
variable {H:List aC}{n:Nat}
def Sc(h:x.pure):aQ H n x=[]:=by cases n with|zero=>rfl|succ n=>unfold aQ;rw[if_pos h]
def pL{r:AV->Option AV}:∀{xs ys:List AV},eJ r xs=some ys->ys.length=xs.length/\∀i,i<xs.length->r (xs.getD i .top)=some (ys.getD i .top)|[],ys,h=>by simp[eJ]at h;subst h;simp|x::xs,ys,h=>by unfold eJ at h;split at h;rename_i y zs h1 h2;cases h;obtain⟨e1,e2⟩:=pL h2;refine⟨by simp[e1],λ i hi=>?_⟩;(cases i with|zero=>simpa using h1|succ i=>have:=e2 i (by simp at hi;omega);simpa using this);simp at h
variable {ys:List AV}
def xHB{r:AV->Option AV}(h:eJ r xs=some ys)(hi:i<xs.length):r (xs.getD i .top)=some (ys.getD i .top):=(pL h).2 i hi
def xFZ{y:AV}(h:lK (resolve H n) x=some y)(hx:x.cells.all AV.one):y.cells.length=x.cells.length/\∀j,j<x.cells.length->resolve H n (x.cells.getD j .top)=some (y.cells.getD j .top):=by
 have key:∀x y:AV,x.cells=[x]->x.one->resolve H n x=some y->y.cells.length=x.cells.length/\∀j,j<x.cells.length->resolve H n (x.cells.getD j .top)=some (y.cells.getD j .top):=by
  intro x y hc h1 hr;have hy:y.cells=[y]:=by cases n with|zero=>unfold resolve at hr;split at hr;cases hr;exact hc;simp at hr|succ n=>
   unfold resolve at hr;split at hr;cases hr;exact hc;split at hr<;>first
    | (simp[AV.one]at h1;done)
    | (simp at hr;done)
    | (
     split at hr
     . simp at hr
     . split at hr
       . cases hr;rfl
       . simp at hr)
    | (
     split at hr
     . cases hr;rfl
     . simp at hr)
    | (
     split at hr
     . split at hr
       . split at hr
         . cases hr;rfl
         . simp at hr
       . simp at hr
     . simp at hr)
  rw[hc,hy];refine⟨rfl,λ j hj=>?_⟩;have:j=0:=by simpa using hj
  subst this;exact hr
 cases x with|agg cs=>simp only[lK]at h;split at h;rename_i ds q;cases h;exact⟨(pL q).1,λ j hj=>xHB q hj⟩;simp at h|top=>simp[AV.cells,AV.one]at hx|tuple vs=>simp[AV.cells,AV.one]at hx|_=>exact key _ _ rfl (by simpa[AV.cells]using hx) h
theorem xDR{y:AV}(h:resolve H n x=some y)(hx:x.one):y.one:=by unfold resolve AV.one at *;grind
def FB(h:x.pure):resolve H n x=some x:=by cases n<;>simp[resolve,h]
def xy0{sz:Nat}{pm:Bool}(h:gh pm (resolve H n) xs=some ys)(q:∀x,x∈xs->x.okElem sz):ys.length=xs.length/\(∀y,y∈ys->y.okElem sz)/\(pm->ys=xs)/\(¬ pm->∀i j,i<xs.length->j<sz->resolve H n ((xs.getD i .top).cells.getD j .top)=some ((ys.getD i .top).cells.getD j .top)):=by
 unfold gh at h;split at h;rename_i hp;cases h;exact⟨rfl,q,λ _=>rfl,λ h=>absurd hp h⟩;rename_i O;obtain⟨h1,h2⟩:=pL h;have at_:∀i,i<xs.length->xs.getD i .top∈xs:=λ i hi=>by simp only[z7,ze hi,zh];exact zo _
 have cell:∀i,i<xs.length->(ys.getD i .top).cells.length=sz/\∀j,j<sz->resolve H n ((xs.getD i .top).cells.getD j .top)=some ((ys.getD i .top).cells.getD j .top):=by intro i hi;have hk:=q _ (at_ i hi);obtain⟨e1,e2⟩:=xFZ (h2 i hi) (lg hk);have hl:=jM hk;exact⟨by omega,λ j hj=>e2 j Ω⟩
 refine⟨h1,λ y hy=>?_,λ h=>absurd h O,λ _ i j hi hj=>(cell i hi).2 j hj⟩;obtain⟨i,hi,rfl⟩:=zp.1 hy;have hi':i<xs.length:=Ω
 obtain⟨c1,c2⟩:=cell i hi';have e:ys.getD i .top=ys[i]:=by simp[z7,hi]
 rw[e]at c1 c2;simp only[AV.okElem,c1,beq_self_eq_true,Bool.true_and,zI];intro c hc;obtain⟨j,hj,rfl⟩:=zp.1 hc;have hk:=lg (q _ (at_ i hi'));have hl:=jM (q _ (at_ i hi'));have hj':j<sz:=Ω
 have h3:=c2 j hj';have e3:ys[i].cells.getD j .top=ys[i].cells[j]:=by simp[z7,hj]
 rw[e3]at h3;refine xDR h3 ?_;rw[zI]at hk;have J:j<(xs.getD i .top).cells.length:=Ω
 exact hk _ (jA J)
section
variable{w:World}{A A':Nat->Prop}{M M':Id->Option MB}{B:Nat}{H:List aC}
variable {bx:aC}{c:AV}{k n:Nat}
def xHQ{id:Id}{e:AV}(hb:getB H id=some bx)(q:¬ bx.pm)(he:e∈bx.xs)(hc:c∈e.cells)(hk:k∈aQ H n c):k∈(match getB H id with|some bx=>if bx.pm then[]else bx.xs.flatMap λ(e:AV)=>e.cells.flatMap (aQ H n)|none=>[]):=by simp only[hb,q,if_false];exact y5.2 ⟨e,he,y5.2 ⟨c,hc,hk⟩⟩
def xHR{id:Id}{off len:Nat}{e:AV}(hb:getB H id=some bx)(q:¬ bx.pm)(he:e∈(bx.xs.drop off).take len)(hc:c∈e.cells)(hk:k∈aQ H n c):k∈(match getB H id with|some bx=>if bx.pm then[]else((bx.xs.drop off).take len).flatMap λ(e:AV)=>e.cells.flatMap (aQ H n)|none=>[]):=by simp only[hb,q,if_false];exact y5.2 ⟨e,he,y5.2 ⟨c,hc,hk⟩⟩
def vG{xs:List AV}(h:c∈xs):∃i,i<xs.length/\xs.getD i .top=c:=by obtain⟨i,hi,rfl⟩:=zp.1 h;exact⟨i,hi,by simp[z7,hi]⟩
def j6{H:List aC}{b:aC}(h:H[n]?=some b):n<H.length:=by rcases zJ n H.length with h'|h';exact h';rw[zz h']at h;simp at h
def FQ{H H':List aC}{x:Id}(h:H[x.base]?=H'[x.base]?):getB H x=getB H' x:=by cases x with|b n=>exact h|r n i j=>simp only[Id.base]at h;simp only[getB,h]
variable {i j:Nat}
theorem tV{H:List aC}{rb:aC}(h:getB H (.r n i j)=some rb):∃bx:aC,H[n]?=some bx/\(bW bx.ty=false/\rb=fY\/bW bx.ty/\de bx.ty j/\bx.pm/\i<bx.xs.length/\rb=iT bx ((bx.xs.getD i .top).cells.getD j .top)):=by grind [getB]
def pP{H:List aC}{rb:aC}(hb:H[n]?=some bx)(hC:bW bx.ty)(h:getB H (.r n i j)=some rb):de bx.ty j/\bx.pm/\i<bx.xs.length/\rb=iT bx ((bx.xs.getD i .top).cells.getD j .top):=by obtain⟨q,h1,h2⟩:=tV h;rw[hb]at h1;cases h1;rcases h2 with⟨h2,_⟩|⟨_,h2⟩;rw[hC]at h2;cases h2;exact h2
def oH{H:List aC}(hb:H[n]?=some bx)(hC:bW bx.ty)(hs:de bx.ty j)(hp:bx.pm)(hi:i<bx.xs.length):getB H (.r n i j)=some (iT bx ((bx.xs.getD i .top).cells.getD j .top)):=by simp only[getB,hb,hC];exact if_pos ⟨hs,hp,hi⟩
def pg{H:List aC}(hb:H[n]?=some bx)(hC:bW bx.ty=false):getB H (.r n i j)=some fY:=by simp only[getB,hb,hC]
def pN{t:TypeId}(h:de t j):bW t:=by cases hc:bW t with|true=>rfl|false=>rw[Q1 hc]at h;cases h
theorem vl{sz:Nat}{x:AV}(h:jW sz x):∃ys,x=.list sz ys:=by unfold jW at *;repeat' split at h<;>simp_all
def Vl(hR:HR w A M B H)(hA:∀b,b<w.heap.size->A' b->A b){sz:Nat}{ys:List AV}{v:Value}(hb:H[n]?=some bx)(hC:bW bx.ty)(hx:(bx.xs.getD i .top).cells.getD j .top=.list sz ys)(h:aD w A M v (pC n i j (.list sz ys)))(Q:∀m,M (.r n i j)=some m->0<m.cap->¬ A' m.b):aD w A' er v (.list sz ys):=by
 obtain⟨m,hm,V,h1,he⟩:=aD.osl_inv h;obtain⟨rb,g1,g2⟩:=hR.box _ m hm;obtain⟨g4,g5,g6,g7⟩:=pP hb hC g1;rw[hx]at g7;subst g7;have hv:2*ys.length=m.ver:=g2.ver;obtain⟨e1,a,rfl,e2⟩:=he hv;have hsz:sz=m.sz:=g2.sz;subst hsz;have J:bW (iT bx (.list m.sz ys)).ty=false:=pf _;simp only[eK,Nat.sub_zero,zH]at e1 e2|-;by_cases hz:ys=[];subst hz;exact .list0 _ _ _;have hl:0<ys.length:=List.length_pos_iff.2 hz;have q:0<m.cap:=Ω
 obtain⟨c,c1,c2,c3⟩:=g2.cells q;replace c1:=c1.plain (g2.nomap (kG J));have O:=e2 q;subst O;rw[Nat.zero_mul];refine .list m.b 0 m.cap m.sz ys (λ i j=>c.getD (i*m.sz+j) undef) (Q m hm q) (g2.lt q) hz e1 g2.ok (λ i j hi hj=>?_) (λ i j hi hj=>?_);have hk:i*m.sz+j<c.size:=by rw[c2];exact mi Ω hj
 rw[zH];simp[World.cell?,c1,hk];have h4:=c3 i j hi hj;rw[jL J,jY J]at h4;exact h4.mono (λ _ _ _=>rfl) (zd _) hA (aR.refl _)
def rS(hR:HR w A M B H)(hA:∀b,b<w.heap.size->A' b->A b):∀(n:Nat)(v:Value)(x y:AV),aD w A M v x->resolve H n x=some y->
  (∀id:Id,id.base∈aQ H n x->∀m,M id=some m->0<m.cap->¬ A' m.b)->aD w A' er v y
 |0,v,x,y,hx,h,_=>by
  unfold resolve at h;split at h
  . rename_i hp;cases h;exact(hx.mono (λ _ _ _=>rfl) (zd _) hA (aR.refl M)).pure hp
  . simp at h
 |n+1,v,x,y,hx,h,hid=>by
  unfold resolve at h;unfold aQ at hid;split at h
  . rename_i hp;cases h;exact(hx.mono (λ _ _ _=>rfl) (zd _) hA (aR.refl M)).pure hp
  rename_i hp;simp only[hp,if_false]at hid;split at h
  . rename_i cs;split at h
    case h_2=>simp at h
    rename_i ds ad;cases h;obtain⟨vs,rfl,hs,hr⟩:=hx.agg_inv;obtain⟨e1,e2⟩:=pL ad;exact .agg vs ds (by omega) λ i hi=>rS hR hA n _ _ _ (hr i (by omega)) (e2 i (by omega)) λ k hk m hm=>hid k (y5.2 ⟨_,jA (by omega),hk⟩) m hm
  . rename_i f cs;split at h
    . simp at h
    rename_i ai;split at h
    case h_2=>simp at h
    rename_i ds ad;cases h;obtain⟨vs,rfl,hs,hr⟩:=hx.func_inv ai;obtain⟨e1,e2⟩:=pL ad;exact .func f vs ds (by omega) (λ i hi=>rS hR hA n _ _ _ (hr i (by omega)) (e2 i (by omega)) λ k hk m hm=>hid k (y5.2 ⟨_,jA (by omega),hk⟩) m hm) λ e=>by rw[ai]at e;cases e
  . rename_i id ver i j;split at h
    case h_2=>simp at h
    rename_i bx W;split at h
    case h_2=>simp at h
    rename_i ys af;split at h
    case isFalse=>simp at h
    rename_i hi;obtain⟨hi,Q⟩:=hi;cases h;obtain⟨m,hm,q,rfl⟩:=tW hR hx W;have Z:=(lf W).1;have J:0<m.cap:=by have:=q.fits;omega
    obtain⟨c,h1,h2,h3⟩:=q.cells J
    replace h1:=h1.plain (q.nomap (qZ W))
    obtain⟨e1,e2,e0,e3⟩:=xy0 af (λ x hx=>q.ok x hx)
    have hsz:=q.sz;have ae:∀i j,i<bx.xs.length->j<m.sz->w.cell? ⟨m.b,i*m.sz+j,none⟩=some (c.getD (i*m.sz+j) undef):=by
     intro i j hi hj;have hk:i*m.sz+j<c.size:=by rw[h2];exact mi (Nat.lt_of_lt_of_le hi q.fits) hj
     simp[World.cell?,h1,hk]
    have ac:¬ A' m.b:=hid id (by simp) m hm J
    have:=aD.eptr (w:=w) (A:=A') (M:=er) m.b 0 m.sz ys i j (λ i j=>c.getD (i*m.sz+j) undef) ac (q.lt J) (by omega) e2
     (λ i j hi hj=>by rw[zH];exact ae i j (by omega) hj)
     (fun i j hi hj=>by
      have h4:=h3 i j (by omega) hj
      rw[jL Q,jY Q]at h4;by_cases O:bx.pm=true
      . rw[e0 O];rw[O]at h4;exact h4.mono (λ _ _ _=>rfl) (zd _) hA (aR.refl _)
      . refine rS hR hA n _ _ _ h4.unmp (e3 O i j (by omega) hj) λ k hk m' Y=>?_
        refine hid k (List.mem_cons_of_mem _ (xHQ Z O (jA (show i<bx.xs.length by omega)) ?_ hk)) m' Y
        have hl:=jM (q.ok _ (jA (show i<bx.xs.length by omega)))
        exact jA (by omega))
    rw[zH]at this;rw[hsz];exact this
  . rename_i id ver off len;split at h
    case h_2=>simp at h
    rename_i bx W;split at h
    case h_2=>simp at h
    rename_i ys af;split at h
    case isFalse=>simp at h
    rename_i aj;obtain⟨aj,Q⟩:=aj;cases h;obtain⟨m,a,hm,q,an,rfl,ha⟩:=rm hR hx W;have Z:=(lf W).1;have ag:∀x,x∈(bx.xs.drop off).take len->x∈bx.xs:=λ x hx=>List.mem_of_mem_drop (List.mem_of_mem_take hx)
    obtain⟨e1,e2,e0,e3⟩:=xy0 af (λ x hx=>q.ok x (ag x hx))
    have ab:((bx.xs.drop off).take len).length=len:=by simp;omega
    have hg:∀i,i<len->((bx.xs.drop off).take len).getD i .top=bx.xs.getD (off+i) .top:=λ i hi=>by
     simp[z7,List.getElem?_take,hi,List.getElem?_drop]
    have hsz:=q.sz;rw[ab]at e1;rw[hsz];by_cases hz:len=0
    . have:ys=[]:=zA (by omega)
      subst this;subst hz;exact .list0 _ _ _
    . have am:=ha (by omega);subst am
      have J:0<m.cap:=by omega
      obtain⟨c,h1,h2,h3⟩:=q.cells J
      replace h1:=h1.plain (q.nomap (qZ W))
      have ac:¬ A' m.b:=hid id (by simp) m hm J
      have:=aD.list (w:=w) (A:=A') (M:=er) m.b (off*m.sz) (m.cap - off) m.sz ys (λ i j=>c.getD ((off+i)*m.sz+j) undef) ac (q.lt J) (by intro e;subst e;simp at e1;omega) (by omega) e2
       (fun i j hi hj=>by
        have hk:(off+i)*m.sz+j<c.size:=by rw[h2];exact mi (by omega) hj
        rw[show off*m.sz+i*m.sz+j=(off+i)*m.sz+j by rw[Nat.add_mul]]
        simp [World.cell?,h1,hk])
       (fun i j hi hj=>by
        have h4:=h3 (off+i) j (by omega) hj
        cases V:de bx.ty j with
        |true=>
         have hc:=pN V;unfold en at Q;rw[hc]at Q;simp only[yZ,zf,zI]at Q;have hj':j=jP bx.ty:=by unfold de at V;rw[hc]at V;exact zg V
         obtain⟨zs,aa⟩:=vl (Q.2 _ (jA (xs:=(bx.xs.drop off).take len) (i:=i) (by omega)))
         rw[hg i (by omega),<-hj']at aa
         rw[e0 Q.1,hg i (by omega),aa]
         unfold fy MV at h4;simp only[V]at h4;rw[aa]at h4;cases id with
         |b nn=>exact Vl hR hA Z hc aa h4 λ m' Y h0=>hid (.r nn (off+i) j) (by simp[Id.base]) m' Y h0
         |r nn i' j'=>
          obtain⟨ao,_,⟨_,rfl⟩|⟨_,_,_,_,rfl⟩⟩:=tV Z
          . cases hc
          . rw[T1,pf]at hc;cases hc
        |false=>
        have ak:fy id.base (off+i) j bx.ty ((bx.xs.getD (off+i) .top).cells.getD j .top)=(bx.xs.getD (off+i) .top).cells.getD j .top:=by unfold fy;rw[V]
        have al:MV M bx j=MP M bx.pm:=by unfold MV;rw[V]
        rw[ak,al]at h4;by_cases O:bx.pm=true
        . rw[e0 O,hg i (by omega)]
          rw[O]at h4;exact h4.mono (λ _ _ _=>rfl) (zd _) hA (aR.refl _)
        . have h5:=e3 O i j (by rw[ab];omega) hj
          rw[hg i (by omega)]at h5
          refine rS hR hA n _ _ _ h4.unmp h5 λ k hk m' Y=>?_
          have ah:bx.xs.getD (off+i) .top∈(bx.xs.drop off).take len:=by rw[<-hg i (by omega)];exact jA (by omega)
          refine hid k (List.mem_cons_of_mem _ (xHR Z O ah ?_ hk)) m' Y;have hl:=jM (q.ok _ (jA (show off+i<bx.xs.length by omega)))
          exact jA (by omega))
      rw[e1]at this;exact this
  . simp at h
end
end Go.Sim
namespace Go.Sim
open Go.RowKit
def sR(H:List aC)(sz:Nat):AV->Option (List AV×Bool)|.nils=>some ([],true)|.list sz' xs=>if sz'=sz then some (xs,true)else none|.osl id ver off len=>(match dW H id ver with|some bx=>if bx.sz=sz/\off+len<=bx.xs.length/\bW bx.ty=false then some ((bx.xs.drop off).take len,bx.pm)else none|none=>none)|_=>none
def putCells(e:AV)(j n sz:Nat)(v:AV):AV:=if j=0/\n=sz then v else .agg (e.cells.take j++v.cells++e.cells.drop (j+n))
def gb(P:Program)(H:List aC)(t tt e:TypeId)(sz:Nat)(x:AV):Option (List AV×Bool):=
 if t=tt then sR H sz x else
  match bN P tt,bN P e,x with
  |some tj,some te,.str s=>match tj.d,te.d with
   |.string,.int .u8=>if te.sz=1 then some (s.map λ(u:UInt8)=>.int .u8 u.toNat,true)else none
   |_,_=>none
  |_,_,_=>none
def jx(H:List aC)(e:TypeId)(te:TI)(s:AV)(ys:List AV)(pm:Bool):Option (AV×List aC):=match s with|.nils=>if 0<te.sz/\ys.length*te.bytes<=140737488355328/\ys.length<=f7/\te.zero.okElem te.sz then some (.osl H.length 0 0 ys.length,H++[⟨0,te.sz,e,ys,false,pm⟩])else none|.osl (.b id) ver off len=>(match dW H id ver with|some bx=>if off=0/\len=bx.xs.length/\bx.frz=false/\bx.sz=te.sz/\bx.ty=e/\0<te.sz/\(len+ys.length)*te.bytes<=140737488355328/\len+ys.length<=f7/\te.zero.okElem te.sz then some (.osl id (ver+1) 0 (len+ys.length),H.set id ⟨ver+1,te.sz,e,bx.xs++ys,false,bx.pm&&pm⟩)else none|none=>none)|_=>none
def y8(P:Program)(H:List aC)(t tt:TypeId)(s x:AV):Option (AV×List aC):=match bN P t with|some ti=>(match ti.d with|.slice e=>(match bN P e with|some te=>(match gb P H t tt e te.sz x with|some (ys,pm)=>jx H e te s ys pm|none=>none)|none=>none)|_=>none)|none=>none
def gK(P:Program)(H:List aC)(t:TypeId)(a v:AV):Option (List aC):=match bN P t,a with|some ti,.own (.b id) ver i j=>(match dW H id ver with|some bx=>(match bx.xs[i]? with|some e=>if bx.frz=false/\v.okElem ti.sz/\j+ti.sz<=bx.sz/\bW bx.ty=false then some (H.set id ⟨ver,bx.sz,bx.ty,bx.xs.set i (putCells e j ti.sz bx.sz v),false,bx.pm&&v.pure⟩)else none|none=>none)|none=>none)|_,_=>none
def yy(l:List AV):(AV.agg l).cells=l:=rfl
def pA(l:List Value)(o:Nat)(vs:List Value):List Value:=l.take o++vs++l.drop (o+vs.length)
variable {o:Nat}{vs:List Value}
theorem Cj{l:List Value}(h:o+vs.length<=l.length)(k:Nat):(pA l o vs).getD k undef=if o<=k/\k<o+vs.length then vs.getD (k - o) undef else l.getD k undef:=by unfold pA;grind
def J2{l:List Value}(h:o+vs.length<=l.length):(pA l o vs).length=l.length:=by simp[pA];omega
section
variable{P:Program}{w:World}{A:Nat->Prop}{M:Id->Option MB}{B:Nat}{H:List aC}
def yk(l:List Value)(k:Nat):l.toArray.getD k undef=l.getD k undef:=by simp[z7,zu]
def rW(c:Array Value)(k:Nat):c.toList.getD k undef=c.getD k undef:=by simp[z7,zu]
def aV(M:Id->Option MB)(id:Id)(m:MB):Id->Option MB:=λ i=>if i=id then some m else M i
variable {id:Id}{m m':MB}
def CK(hm:M id=some m)(h:m'=m\/m.ver<m'.ver):aR M (aV M id m'):=λ i m1 h1=>by by_cases hi:i=id;subst hi;rw[hm]at h1;cases h1;exact⟨m',by simp[aV],h⟩;exact⟨m1,by simp[aV,hi,h1],.inl rfl⟩
def ip(w w':World)(M M':Id->Option MB):Prop:=(∀b,b<w.heap.size->(∀id m,M id=some m->0<m.cap->m.b≠b)->w'.heap[b]?=w.heap[b]?)/\∀id m',M' id=some m'->0<m'.cap->(∃i m,M i=some m/\0<m.cap/\m'.b=m.b)\/w.heap.size<=m'.b
def ip.of_new{w w':World}{M M':Id->Option MB}(hb:Below w.heap.size w w')(h:∀id m,M' id=some m->M id=some m\/w.heap.size<=m.b):ip w w' M M':=⟨λ b h _=>hb.block b h,λ id m' hm h0=>(h id m' hm).imp (λ h=>⟨id,m',h,h0,rfl⟩) (λ h=>h)⟩
def iQ(H:List aC)(n:Nat):getB H (.b n)=H[n]?:=rfl
variable {bx:aC}
def vO(hb:getB H id=some bx):id.base<H.length:=by cases id with|b n=>rw[iQ]at hb;exact j6 hb|r n i j=>obtain⟨q,h,_⟩:=tV hb;exact j6 h
def xwm{l:List aC}(hb:getB H id=some bx):getB (H++l) id=some bx:=by rw[<-hb];exact FQ (zO (vO hb))
variable {bx':aC}{n:Nat}
def xDC{j:Id}(h:j.base≠n):getB (H.set n bx') j=getB H j:=FQ (by rw[zX (Ne.symm h)])
def rM(hb:H[n]?=some bx)(J:bW bx.ty=false)(q:bW bx'.ty=false){j:Id}(hne:j≠.b n):getB (H.set n bx') j=getB H j:=by by_cases hj:j.base=n;(cases j with|b k=>exact absurd (by rw[<-hj];rfl) hne|r k i l=>simp only[Id.base]at hj;subst hj;rw[pg hb J,pg (zL (j6 hb)) q]);exact xDC hj
def KB(hR:HR w A M B H){id:Nat}(q:0<m.cap)(hm:M (.b id)=some m)(hb:H[id]?=some bx)(O:BoxAt w A M B (.b id) m bx)(aa:bW bx.ty=false)(Q:bW bx'.ty=false)(ag:bx.frz=false){c':Array Value}(e1:m'.b=m.b)(e2:m'.cap=m.cap)(e3:m'.sz=m.sz)(e4:m'.ty=m.ty)(e5:m'=m\/m.ver<m'.ver)(f1:bx'.ver=m'.ver)(f2:bx'.sz=m'.sz)(f3:bx'.ty=m'.ty)(f4:bx'.frz=false)(ac:bx'.xs.length<=m.cap)(af:∀x,x∈bx'.xs->x.okElem m.sz)(hsz:c'.size=m.cap*m.sz)(hc:∀i j,i<bx'.xs.length->j<m.sz->aD w A (MP M bx'.pm) (c'.getD (i*m.sz+j) undef) ((bx'.xs.getD i .top).cells.getD j .top)):HR (w.setRow m.b c') A (aV M (.b id) m') B (H.set id bx')/\aR M (aV M (.b id) m')/\(∀b,b<w.heap.size->¬ A b->(w.setRow m.b c').heap[b]?=w.heap[b]?)/\Below B w (w.setRow m.b c')/\ip w (w.setRow m.b c') M (aV M (.b id) m')/\A m.b:=by
 have Z:A m.b:=(O.guard q).1 ag;have W:aR M (aV M (.b id) m'):=CK hm e5;have hs:(w.setRow m.b c').heap.size=w.heap.size:=by simp[World.setRow]
 have hw:∀b,b<w.heap.size->¬ A b->(w.setRow m.b c').heap[b]?=w.heap[b]?:=λ b _ hb=>setRow_other w m.b b c' λ e=>hb (e▸Z);obtain⟨c,h1,h2,h3⟩:=O.cells q;have ad:dD m.ty=false:=O.nomap (kG aa);replace h1:=h1.plain ad;refine⟨⟨?_,?_,λ b hb=>by rw[hs];exact hR.lt b hb⟩,W,hw,⟨rfl,rfl,rfl,by rw[hs];exact zd _,λ k hk=>setRow_other w m.b k c' λ e=>by have:=O.low q;omega⟩,⟨λ b _ hb=>setRow_other w m.b b c' λ e=>hb (.b id) m hm q e.symm,λ i m1 J _=>?_⟩,Z⟩;intro i m1 J;by_cases hi:i=.b id;subst hi;have:m1=m':=by simp[aV]at J;exact J.symm
 subst this;refine⟨bx',by rw[iQ,zL (j6 hb)],⟨f1,f2,by rw[lZ Q];exact f3,by rw[e2];exact O.capm,by rw[e2];exact ac,by rw[e3];exact af,λ _=>by rw[e1];exact O.low q,λ _=>by rw[e1,hs];exact O.lt q,λ _=>⟨c',.of (by rw[e4];exact ad) (by rw[e1,e4];exact setRow_heap w m.b c c' m.ty (0,0) h1),by rw[e2,e3];exact hsz,?_⟩,λ _=>⟨λ _=>by rw[e1];exact Z,λ _=>f4⟩⟩⟩;intro i j hi hj;rw[e3]at hj|-;rw[jL Q,jY Q];exact(hc i j hi hj).mono hw (by rw[hs];exact zd _) (λ b _ h=>h) (Ls W _);have ab:M i=some m1:=by simpa[aV,hi]using J
 obtain⟨ae,g1,g2⟩:=hR.box i m1 ab;have hne:0<m1.cap->m1.b≠m.b:=λ h0 e=>hi (hR.inj i (.b id) m1 m ab hm h0 q e);exact⟨ae,by rw[rM hb aa Q hi];exact g1,g2.mono (λ h0=>setRow_other w m.b m1.b c' (hne h0)) hw (by rw[hs];exact zd _) (λ b _ h=>h) g2.guard W⟩;intro i i' m1 m2 J Y c1 c2 he;by_cases hi:i=.b id<;>by_cases V:i'=.b id;rw[hi,V];have g1:m1=m':=by simp[aV,hi]at J;exact J.symm
 have g2:M i'=some m2:=by simpa[aV,V]using Y
 rw[hi];exact hR.inj (.b id) i' m m2 hm g2 q c2 (by rw[<-he,g1,e1]);have g1:m2=m':=by simp[aV,V]at Y;exact Y.symm
 have g2:M i=some m1:=by simpa[aV,hi]using J
 rw[V];exact hR.inj i (.b id) m1 m g2 hm c1 q (by rw[he,g1,e1]);exact hR.inj i i' m1 m2 (by simpa[aV,hi]using J) (by simpa[aV,V]using Y) c1 c2 he;by_cases hi:i=.b id;have g1:m1=m':=by simp[aV,hi]at J;exact J.symm
 exact .inl ⟨.b id,m,hm,q,by rw[g1,e1]⟩;rename_i h0;exact .inl ⟨i,m1,by simpa[aV,hi]using J,h0,rfl⟩
def xGQ(hR:HR w A M B H){id:Nat}(Q:m.cap=0)(hm:M (.b id)=some m)(hb:H[id]?=some bx)(Z:bW bx.ty=false)(J:bW bx'.ty=false)(e2:m'.cap=m.cap)(e3:m'.sz=m.sz)(e5:m'=m\/m.ver<m'.ver)(f1:bx'.ver=m'.ver)(f2:bx'.sz=m'.sz)(f3:bx'.ty=m'.ty)(f5:bx'.xs=[]):HR w A (aV M (.b id) m') B (H.set id bx')/\aR M (aV M (.b id) m')/\ip w w M (aV M (.b id) m'):=by
 have O:aR M (aV M (.b id) m'):=CK hm e5;have hc:∀{p:Prop},0<m'.cap->p:=λ h=>absurd h Ω;refine⟨⟨?_,?_,hR.lt⟩,O,⟨λ _ _ _=>rfl,λ i m1 q h0=>?_⟩⟩;intro i m1 q;by_cases hi:i=.b id;subst hi;have:m1=m':=by simp[aV]at q;exact q.symm
 subst this;exact⟨bx',by rw[iQ,zL (j6 hb)],⟨f1,f2,by rw[lZ J];exact f3,by rw[e2,Q];exact zQ _,by rw[f5];exact zQ _,by rw[f5];simp,hc,hc,hc,hc⟩⟩;have aa:M i=some m1:=by simpa[aV,hi]using q
 obtain⟨Y,g1,g2⟩:=hR.box i m1 aa;exact⟨Y,by rw[rM hb Z J hi];exact g1,g2.mono (λ _=>rfl) (λ _ _ _=>rfl) (zd _) (λ b _ h=>h) g2.guard O⟩;intro i i' m1 m2 q V c1 c2 he;by_cases hi:i=.b id;have g1:m1=m':=by simp[aV,hi]at q;exact q.symm
 rw[g1]at c1;exact hc c1;by_cases W:i'=.b id;have g1:m2=m':=by simp[aV,W]at V;exact V.symm
 rw[g1]at c2;exact hc c2;exact hR.inj i i' m1 m2 (by simpa[aV,hi]using q) (by simpa[aV,W]using V) c1 c2 he;by_cases hi:i=.b id;have g1:m1=m':=by simp[aV,hi]at q;exact q.symm
 rw[g1]at h0;exact hc h0;exact .inl ⟨i,m1,by simpa[aV,hi]using q,h0,rfl⟩
def Writes(P:Program)(o:Oper)(ρc:Operand->Value)(w:World)(A:Nat->Prop)(M:Id->Option MB)(B:Nat)(x:AV)(H':List aC):Prop:=∃n w' A' M' v,(execOp ρc o).run P w=.ok n w'/\((n=.value v)\/(n=.skip/\v=undef))/\Below B w w'/\aR M M'/\(∀b,b<w.heap.size->(A' b↔A b))/\(∀b,b<w.heap.size->¬ A b->w'.heap[b]?=w.heap[b]?)/\ip w w' M M'/\HR w' A' M' B H'/\aD w' A' M' v x
def xGS{v:Value}{x:AV}(h:aD w A M v x)(hx:x.cells.all AV.one):∀u,u∈v.cells.toList->u.oneCell':=by(intro u hu;obtain⟨h1,h2⟩:=h.cells hx;obtain⟨i,hi,rfl⟩:=zp.1 hu;have hi':i<x.cells.length:=by simp at hi;omega);(have:=h2 i hi';have e:v.cells.getD i undef=v.cells.toList[i]:=by simp at hi;simp[hi]);rw[e]at this;refine this.oneCell ?_;rw[zI]at hx;exact hx _ (jA hi')
def xD1(hR:HR w A M B H){o:Oper}{ρc:Operand->Value}{t:TypeId}{oa ov:Operand}{xa xv:AV}{H':List aC}(ho:o.op=.store t oa ov)(ha:aD w A M (ρc oa) xa)(hv:aD w A M (ρc ov) xv)(h:gK P H t xa xv=some H'):Writes P o ρc w A M B (.tuple []) H':=by
 unfold gK at h;split at h;case h_2=>simp at h
 rename_i ti id ver i j au;split at h;case h_2=>simp at h
 rename_i bx ai;split at h;case h_2=>simp at h
 rename_i e he;split at h;case isFalse=>simp at h
 rename_i aq;obtain⟨ap,ad,az,O⟩:=aq;cases h;obtain⟨m,hm,q,aw⟩:=tW hR ha ai;obtain⟨ax,ao⟩:=lf ai;have Q:0<m.cap:=by have:=q.fits;have:0<bx.xs.length:=List.length_pos_of_mem (List.mem_of_getElem? he);omega
 obtain⟨c,h1,h2,h3⟩:=q.cells Q;replace h1:=h1.plain (q.nomap (kG O));replace h3:∀i j,i<bx.xs.length->j<m.sz->aD w A (MP M bx.pm) (c.getD (i*m.sz+j) undef) ((bx.xs.getD i .top).cells.getD j .top):=λ i j hi hj=>by have:=h3 i j hi hj;rw[jL O,jY O]at this;exact this
 have hty':bx.ty=m.ty:=by rw[<-q.ty,lZ O]
 have ak:=jM ad;have J:=lg ad;have aj:=S4 hv J;have ae:(ρc ov).cells.size=ti.sz:=by have:=aj.1;simp at this;omega
 have hi:i<bx.xs.length:=by rcases zJ i bx.xs.length with h'|h';exact h';simp[zz h']at he
 have ar:bx.xs.getD i .top=e:=by simp[z7,he]
 have a0:=jM (q.ok e (List.mem_of_getElem? he));have hsz:=q.sz;have am:i*m.sz+m.sz<=c.size:=by rw[h2];have:(i+1)*m.sz<=m.cap*m.sz:=Nat.mul_le_mul_right _ (Nat.le_trans hi q.fits);rw[Nat.add_mul,Nat.one_mul]at this;exact this
 have Z:i*m.sz+j+(ρc ov).cells.toList.length<=c.toList.length:=by simp;omega
 have V:(putCells e j ti.sz bx.sz xv).cells.length=m.sz/\(∀k,k<m.sz->(putCells e j ti.sz bx.sz xv).cells.getD k .top=if j<=k/\k<j+ti.sz then xv.cells.getD (k - j) .top else e.cells.getD k .top)/\(putCells e j ti.sz bx.sz xv).cells.all AV.one:=by unfold putCells;split;rename_i hw;obtain⟨rfl,hw⟩:=hw;exact⟨by omega,λ k hk=>by rw[if_pos Ω];simp,J⟩;(have ah:min j e.cells.length=j:=Ω);refine⟨by rw[yy];simp;omega,λ k hk=>?_,?_⟩;simp only[yy,zw,z7,zP,zt,ah];by_cases aa:k<j;simp[aa,List.getElem?_take,show ¬ j<=k by omega];by_cases af:k<j+ti.sz;simp[aa,ak,show k - j<ti.sz by omega,af,show j<=k by omega];simp only[aa,if_false,ak,show ¬ (k - j<ti.sz) by omega,af,and_false,List.getElem?_drop];congr 2;omega;have h5:=lg (q.ok e (List.mem_of_getElem? he));rw[zI]at h5 J;simp only[yy,List.all_append,zf,zI];exact⟨⟨λ x hx=>h5 x (List.mem_of_mem_take hx),J⟩,λ x hx=>h5 x (List.mem_of_mem_drop hx)⟩
 have ag:=run_storeCells_at P m.b (i*m.sz+j) m.ty (ρc ov).cells.toList 0 c w h1 (by simp;omega) (xGS hv J);simp only[Nat.add_zero]at ag;obtain⟨g1,g2,g3,g4,gt,g5⟩:=KB (m':=m) (bx':=⟨ver,bx.sz,bx.ty,bx.xs.set i (putCells e j ti.sz bx.sz xv),false,bx.pm&&xv.pure⟩) hR Q hm ax q O O ap (c':=(pA c.toList (i*m.sz+j) (ρc ov).cells.toList).toArray) rfl rfl rfl rfl (.inl rfl)
  (by rw[<-q.ver,<-ao]) hsz hty' rfl (by simpa using q.fits)
  (fun x hx=>by
   rcases List.mem_or_eq_of_mem_set hx with hx|rfl
   . exact q.ok x hx
   . simp only [AV.okElem,V.1,beq_self_eq_true,Bool.true_and];exact V.2.2)
  (by have:=J2 Z;simp at this|-;omega)
  (fun i' j' W Y=>by
   simp at W;rw[yk,Cj Z];have ac:(ρc ov).cells.toList.length=ti.sz:=by simpa using ae
   by_cases al:i'=i
   . subst al;have e1:(bx.xs.set i' (putCells e j ti.sz bx.sz xv)).getD i' .top=putCells e j ti.sz bx.sz xv:=by simp[z7,W]
     rw[e1,V.2.1 j' Y,ac];by_cases ab:j<=j'/\j'<j+ti.sz
     . rw[if_pos Ω,if_pos ab,show i'*m.sz+j' - (i'*m.sz+j)=j' - j by omega]
       exact(aj.2 _ Ω).mp λ hp=>tE (FU (zf _ _▸hp).2) _
     . rw[if_neg Ω,if_neg ab,rW]
       have:=h3 i' j' W Y;rw[ar]at this;exact this.mp_and
   . have e1:(bx.xs.set i (putCells e j ti.sz bx.sz xv)).getD i' .top=bx.xs.getD i' .top:=by simp[z7,List.getElem?_set,show ¬ i=i' from λ h=>al h.symm]
     rw[e1,ac,if_neg,rW]
     . exact(h3 i' j' W Y).mp_and
     . intro ab;rcases zJ i' i with an|ay
       . have:i'*m.sz+j'<i*m.sz:=mi an Y;omega
       . have h6:(i+1)*m.sz<=i'*m.sz:=Nat.mul_le_mul_right _ Ω
         rw [Nat.add_mul,Nat.one_mul] at h6;omega)
 refine⟨.skip,_,A,_,undef,?_,.inr ⟨rfl,rfl⟩,g4,g2,λ _ _=>Iff.rfl,g3,gt,g1,.tuple #[] [] rfl Ψ⟩;simp only[execOp,ho,aw,Instr.storeAt,Instr.sureAddr,storeVar,Sem.run_bind,Sem.run_pure,Result.andThen_ok,nk au,ae,ne_eq,not_true,if_false];rw[ag];rfl
end
end Go.Sim
namespace Go.Sim
open Go.RowKit
section
variable{P:Program}{w:World}{A:Nat->Prop}{M:Id->Option MB}{B:Nat}{H:List aC}
variable {pm:Bool}{sz:Nat}{v:Value}{x:AV}{ys:List AV}
def xzP(hR:HR w A M B H)(hx:aD w A M v x)(h:sR H sz x=some (ys,pm)):(ys=[]/\∃a c,v=.slice a 0 c)\/∃b o c,v=.slice (some ⟨b,o,none⟩) ys.length c/\(∀y,y∈ys->y.okElem sz)/\∀i j,i<ys.length->j<sz->∃u,w.cell? ⟨b,o+(i*sz+j),none⟩=some u/\aD w A (MP M pm) u ((ys.getD i .top).cells.getD j .top):=by
 unfold sR at h;split at h;cases h;cases hx;exact .inl ⟨rfl,none,0,rfl⟩;split at h;case isFalse=>simp at h
 rename_i hs;subst hs;cases h;cases hx with|list0 a cap _=>exact .inl ⟨rfl,a,cap,rfl⟩|list b off cap _ _ val ha hb hne hcap hsz hc hr=>exact .inr ⟨b,off,cap,rfl,hsz,λ i j hi hj=>⟨val i j,by rw[<-Nat.add_assoc];exact hc i j hi hj,hr i j hi hj⟩⟩
 rename_i id ver off len;split at h;case h_2=>simp at h
 rename_i bx W;split at h;case isFalse=>simp at h
 rename_i V;obtain⟨hsz,aa,O⟩:=V;cases h;obtain⟨m,a,hm,q,Z,rfl,ha⟩:=rm hR hx W;have Q:m.sz=sz:=by rw[<-q.sz,hsz]
 have J:((bx.xs.drop off).take len).length=len:=by simp;omega
 by_cases hz:len=0;subst hz;exact .inl ⟨by simp,a,_,rfl⟩;have Y:=ha Ω;subst Y;refine .inr ⟨m.b,off*m.sz,m.cap - off,by rw[J],λ y hy=>by rw[<-Q];exact q.ok y (List.mem_of_mem_drop (List.mem_of_mem_take hy)),λ i j hi hj=>?_⟩;rw[J]at hi;rw[<-Q]at hj|-;have:=q.cell' (q.nomap (kG O)) (show off+i<bx.xs.length by omega) hj;rw[jL O,jY O]at this;rw[Nat.add_mul,Nat.add_assoc]at this;have hg:((bx.xs.drop off).take len).getD i .top=bx.xs.getD (off+i) .top:=by simp[z7,List.getElem?_take,hi,List.getElem?_drop]
 rwa [hg];simp at h
def ZV{t ty e:TypeId}{i:TypeInfo}(ht:P.underlying t=some (.slice e))(hi:P.info? e=some i)(b:Option Addr)(len cap:Nat)(q:len<=cap)(a:Option Addr)(c:Nat):(Builtin.append_ #[t,t] ty #[.slice b len cap,.slice a 0 c]).run P w=.ok (.slice b len cap) w:=by cases a<;>cases b<;>simp[Builtin.append_,run_underlying ht,sizeOf,typeInfo,hi,Builtin.lenOf,Builtin.firstCells,loadCells,loadCellsFrom,q,storeCells]
def qK(w:World)(b o n:Nat):List Value:=(List.range n).map λ k=>(w.cell? ⟨b,o+k,none⟩).getD undef
def Cn(w:World)(b o n:Nat):(qK w b o n).length=n:=by simp[qK]
variable {k n:Nat}
def xBD{b o:Nat}(hk:k<n):(qK w b o n).getD k undef=(w.cell? ⟨b,o+k,none⟩).getD undef:=by simp[qK,z7,hk]
def UA(hk:k<n*sz):k / sz<n:=Nat.div_lt_of_lt_mul (by rwa [Nat.mul_comm])
section src
variable{ys:List AV}{sz b o:Nat}(hsz:0 < sz)(hs:∀i j,i < ys.length->j < sz->∃u,w.cell? ⟨b,o + (i * sz + j),none⟩ =some u/\aD w A M u ((ys.getD i .top).cells.getD j .top))
include hsz hs
def U3{k:Nat}(hk:k<ys.length*sz):∃u,w.cell? ⟨b,o+k,none⟩=some u/\aD w A M u ((ys.getD (k / sz) .top).cells.getD (k % sz) .top):=by have:=hs (k / sz) (k % sz) (UA hk) (Nat.mod_lt _ hsz);rwa [Nat.mul_comm,Nat.div_add_mod]at this
def Tc(j:Nat)(u:Value)(h:(qK w b o (ys.length*sz))[j]?=some u):w.cell? ((⟨b,o,none⟩:Addr).add j)=some u:=by(have hj:j<ys.length*sz:=by rcases zJ j (ys.length*sz)with h'|h';exact h';rw[zz (by rw[Cn];exact h')]at h;simp at h);obtain⟨u',hu,_⟩:=U3 hsz hs hj;rw[ri,hu];simp[qK,hj,hu]at h;rw[h]
omit hsz in
def xK4{i j:Nat}(hi:i<ys.length)(hj:j<sz):aD w A M ((qK w b o (ys.length*sz)).getD (i*sz+j) undef) ((ys.getD i .top).cells.getD j .top):=by obtain⟨u,hu,hr⟩:=hs i j hi hj;rw[xBD (mi hi hj),hu];exact hr
def xK3(q:∀y,y∈ys->y.okElem sz):∀u,u∈qK w b o (ys.length*sz)->u.oneCell':=by(intro u hu;obtain⟨k,hk,rfl⟩:=zp.1 hu;have hk':k<ys.length*sz:=by rwa [Cn]at hk);(obtain⟨u',J,hr⟩:=U3 hsz hs hk';have e:(qK w b o (ys.length*sz))[k]=u':=by simp[qK,J]);rw[e];have hi:=UA hk';have h1:=lg (q _ (jA hi));have hl:=jM (q _ (jA hi));rw[zI]at h1;exact hr.oneCell (h1 _ (jA (by rw[hl];exact Nat.mod_lt _ hsz)))
end src
def xyB{xs:List AV}{c:List Value}{news:List Value}(hn:news.length=ys.length*sz)(O:∀i j,i<xs.length->j<sz->aD w A M (c.getD (i*sz+j) undef) ((xs.getD i .top).cells.getD j .top))(Q:∀i j,i<ys.length->j<sz->aD w A M (news.getD (i*sz+j) undef) ((ys.getD i .top).cells.getD j .top)){c':List Value}(h1:∀k,k<xs.length*sz->c'.getD k undef=c.getD k undef)(h2:∀k,k<ys.length*sz->c'.getD (xs.length*sz+k) undef=news.getD k undef):∀i j,i<(xs++ys).length->j<sz->aD w A M (c'.getD (i*sz+j) undef) (((xs++ys).getD i .top).cells.getD j .top):=by
 intro i j hi hj;by_cases q:i<xs.length;have e:(xs++ys).getD i .top=xs.getD i .top:=by simp[z7,zP,q]
 rw[e,h1 _ (mi q hj)];exact O i j q hj;have e:(xs++ys).getD i .top=ys.getD (i - xs.length) .top:=by simp[z7,zP,q]
 have J:i - xs.length<ys.length:=by simp at hi;omega
 have e2:i*sz+j=xs.length*sz+((i - xs.length)*sz+j):=by rw[<-Nat.add_assoc,<-Nat.add_mul,show xs.length+(i - xs.length)=i by omega]
 rw[e,e2,h2 _ (mi J hj)];exact Q _ j J hj
def xuH{xs:List AV}(hx:∀x,x∈xs->x.okElem sz)(hy:∀x,x∈ys->x.okElem sz):∀x,x∈xs++ys->x.okElem sz:=λ x q=>by rcases zG.1 q with h|h;exact hx x h;exact hy x h
def HR.drew(hR:HR w A M B H):HR w.drew A M B H:=hR.grow ⟨rfl,rfl,rfl,zd _,λ _ _=>rfl⟩
variable {H':List aC}
def HR.ext(hR:HR w A M B H)(h:∀n,n<H.length->(∃id m,id.base=n/\M id=some m)->H'[n]?=H[n]?):HR w A M B H':=
 ⟨fun id m hm=>by
  obtain ⟨bx,h1,h2⟩:=hR.box id m hm;exact ⟨bx,by rw [FQ (h id.base (vO h1) ⟨id,m,rfl,hm⟩)];exact h1,h2⟩,hR.inj,hR.lt⟩
def HR.append(hR:HR w A M B H)(l:List aC):HR w A M B (H++l):=hR.ext λ n hn _=>zO hn
def HR.none_of_base(hR:HR w A M B H){id:Id}(h:H.length<=id.base):M id=none:=by cases hm:M id with|none=>rfl|some m=>obtain⟨bx,h1,_⟩:=hR.box id m hm;have:=vO h1;omega
def HR.none_of_length(hR:HR w A M B H)(h:H.length<=n):M (.b n)=none:=hR.none_of_base (id:=.b n) h
def HR.free_of_length(hR:HR w A M B H)(h:H.length<=n):gH M n:=⟨hR.none_of_base (id:=.b n) h,λ i j=>hR.none_of_base (id:=.r n i j) h⟩
set_option maxHeartbeats 1000000 in
structure Mv (w:World) (A:Nat->Prop) (M:Id->Option MB) (w':World) (A':Nat->Prop) (M':Id->Option MB):Prop where
 size:w.heap.size<=w'.heap.size
 keep:∀b,b<w.heap.size->¬ A b->w'.heap[b]?=w.heap[b]?
 less:∀b,b<w.heap.size->A' b->A b
 more:∀b,b<w.heap.size->A b->(∀id m,M id=some m->0<m.cap->m.b≠b)->A' b
 ext:aR M M'
 touch:ip w w' M M'
variable {A':Nat->Prop}{M':Id->Option MB}{w':World}
def Mv.rel{w:World}{A:Nat->Prop}{M:Id->Option MB}(h:Mv w A M w' A' M')(hr:aD w A M v x):aD w' A' M' v x:=hr.mono h.keep h.size h.less h.ext
def HR.virt{w:World}{A:Nat->Prop}{M:Id->Option MB}{B:Nat}{H:List aC}(hR:HR w A M B H)(sz:Nat)(ty:TypeId)(pm:Bool):HR w A (bK M H.length ⟨0,0,sz,0,gA ty⟩) B (H++[⟨0,sz,ty,[],false,pm⟩])/\Mv w A M w A (bK M H.length ⟨0,0,sz,0,gA ty⟩)/\∀a,aD w A (bK M H.length ⟨0,0,sz,0,gA ty⟩) (.slice a 0 0) (.osl H.length 0 0 0):=by
 have hn:gH M H.length:=hR.free_of_length (zd _);have O:aR M (bK M H.length ⟨0,0,sz,0,gA ty⟩):=Ge hn _;have q:∀id m',bK M H.length ⟨0,0,sz,0,gA ty⟩ id=some m'->0<m'.cap->M id=some m':=λ id m' hm h0=>by by_cases J:id=.b H.length;subst J;simp[bK]at hm;subst hm;exact absurd h0 Ψ;simpa[bK,J]using hm
 refine⟨⟨λ id m' Q=>?_,λ id id' m1 m2 h1 h2 c1 c2 he=>hR.inj id id' m1 m2 (q id m1 h1 c1) (q id' m2 h2 c2) c1 c2 he,hR.lt⟩,⟨zd _,λ _ _ _=>rfl,λ _ _ h=>h,λ _ _ h _=>h,O,⟨λ _ _ _=>rfl,λ id m' hm h0=>.inl ⟨id,m',q id m' hm h0,h0,rfl⟩⟩⟩,λ a=>?_⟩;by_cases J:id=.b H.length;subst J;have:m'=⟨0,0,sz,0,gA ty⟩:=by simp[bK]at Q;exact Q.symm
 subst this;have hc:∀{p:Prop},0<(0:Nat)->p:=λ h=>absurd h Ψ;exact⟨⟨0,sz,ty,[],false,pm⟩,by simp[getB],rfl,rfl,rfl,zQ _,zQ _,λ x hx=>by simp at hx,hc,hc,hc,hc⟩;have V:M id=some m':=by simpa[bK,J]using Q
 obtain⟨bx,g1,g2⟩:=hR.box id m' V;exact⟨bx,xwm g1,g2.mono (λ _=>rfl) (λ _ _ _=>rfl) (zd _) (λ _ _ h=>h) g2.guard O⟩;exact .osl _ H.length 0 0 0 ⟨0,0,sz,0,gA ty⟩ (by simp[bK]) (zd _) rfl λ _=>⟨by simp,a,by simp,λ h=>by simp at h⟩
structure CX (P:Program) (w:World) (t tt ty e:TypeId) (i:TypeInfo) (z v:Value) (n:Nat) (news:List Value):Prop where
 nil:(n:Int)<=9223372036854775807->n*i.bytes<=281474976710656->(Builtin.append_ #[t,tt] ty #[.slice none 0 0,v]).run P w =
  .ok (.slice (some ⟨w.heap.size,0,none⟩) n (grownCap w n 0 e)) (w.drew.alloc (.cells (news.toArray++Builtin.zeroCells z.cells (grownCap w n 0 e - n)) e))
 grow:∀(b:Addr)(sLen sCap:Nat)(olds:List Value),olds.length=sLen*i.size->(∀j u,olds[j]?=some u->w.cell? (b.add j)=some u)->sCap<sLen+n->((sLen+n:Nat):Int)<=9223372036854775807->
  Builtin.nextslicecap (sLen+n) sCap*i.bytes<=281474976710656->(Builtin.append_ #[t,tt] ty #[.slice (some b) sLen sCap,v]).run P w =
   .ok (.slice (some ⟨w.heap.size,0,none⟩) (sLen+n) (grownCap w (sLen+n) sCap e))
    (w.drew.alloc (.cells (olds.toArray++news.toArray++Builtin.zeroCells z.cells (grownCap w (sLen+n) sCap e - (sLen+n))) e))
 room:∀(g sLen sCap:Nat)(cur:Array Value),w.heap[g]?=some (.cells cur e (0,0))->sLen+n<=sCap->sLen*i.size+news.length<=cur.size->
  (Builtin.append_ #[t,tt] ty #[.slice (some ⟨g,0,none⟩) sLen sCap,v]).run P w =
   .ok (.slice (some ⟨g,0,none⟩) (sLen+n) sCap) (w.setRow g (cur.toList.take (sLen*i.size)++news++cur.toList.drop (sLen*i.size+news.length)).toArray)
def ASrc(P:Program)(w:World)(A:Nat->Prop)(M:Id->Option MB)(t tt ty e:TypeId)(sz:Nat)(v:Value)(ys:List AV)(pm:Bool):Prop:=(ys=[]/\∀b len cap,len<=cap->(Builtin.append_ #[t,tt] ty #[.slice b len cap,v]).run P w=.ok (.slice b len cap) w) \/ (0<ys.length/\(∀y,y∈ys->y.okElem sz)/\∃news:List Value,news.length=ys.length*sz/\(∀i j,i<ys.length->j<sz->aD w A (MP M pm) (news.getD (i*sz+j) undef) ((ys.getD i .top).cells.getD j .top))/\∀i z,P.info? e=some i->i.zero=some z->i.size=sz->CX P w t tt ty e i z v ys.length news)
def xFh(hR:HR w A M B H){t ty e:TypeId}(J:0<sz)(hu:P.underlying t=some (.slice e)){i0:TypeInfo}(Y:P.info? e=some i0)(hx:aD w A M v x)(h:sR H sz x=some (ys,pm)):ASrc P w A M t t ty e sz v ys pm:=by rcases xzP hR hx h with⟨he,a,cc,Q⟩|⟨b,off,cc,Q,W,q⟩;subst Q;exact .inl ⟨he,λ b len cap V=>ZV hu Y b len cap V a cc⟩;subst Q;rcases Nat.eq_zero_or_pos ys.length with O|O;rw[O];exact .inl ⟨zA O,λ b' len cap V=>ZV hu Y b' len cap V _ cc⟩;refine .inr ⟨O,W,qK w b off (ys.length*sz),Cn _ _ _ _,λ i j hi hj=>xK4 q hi hj,λ i z hi hz hs=>⟨λ h1 h2=>?_,λ b' sLen sCap olds h1 h2 h3 h4 h5=>?_,λ g sLen sCap cur h1 h2 h3=>?_⟩⟩;exact run_append_nil (P:=P) w t ty e i z hu hi hz ⟨b,off,none⟩ ys.length cc _ (by rw[Cn,hs]) (Tc J q) O h1 h2;exact run_append_grow (P:=P) w t ty e i z hu hi hz b' sLen sCap olds h1 h2 ⟨b,off,none⟩ ys.length cc _ (by rw[Cn,hs]) (Tc J q) h3 h4 h5;exact run_append_room (P:=P) w t ty e i hu hi g sLen sCap cur h1 ⟨b,off,none⟩ ys.length cc _ (by rw[Cn,hs]) (Tc J q) (xK3 J q W) h2 h3
def xtI(w:World)(t u ty e:TypeId)(i:TypeInfo)(z:Value)(ht:P.underlying t=some (.slice e))(hu:P.underlying u=some .string)(hi:P.info? e=some i)(hz:i.zero=some z)(s:ByteArray)(h0:0<s.size)(J:(s.size:Int)<=9223372036854775807)(q:s.size*i.bytes<=281474976710656):(Builtin.append_ #[t,u] ty #[.slice none 0 0,.string s]).run P w =.ok (.slice (some ⟨w.heap.size,0,none⟩) s.size (grownCap w s.size 0 e)) (w.drew.alloc (.cells ((Lib.strCells s).toArray++Builtin.zeroCells z.cells (grownCap w s.size 0 e - s.size)) e)):=by
 have hn:s.size≠0:=Ω
 have h63':¬ (9223372036854775807<(s.size:Int)):=Ω
 have h48':¬ (281474976710656<Builtin.nextslicecap s.size 0*i.bytes):=by rw[nextslicecap_zero h0];omega
 have hf:=Lib.run_firstCells_string (P:=P) w.drew i.size s;simp[Builtin.append_,run_underlying ht,run_underlying hu,sizeOf,typeInfo,zeroValue,hi,hz,Builtin.lenOf,hn,h63',h48',Question.forced,run_firstCells_none,hf,newRow,grownCap]
def xte{t u ty e:TypeId}{i:TypeInfo}(ht:P.underlying t=some (.slice e))(hu:P.underlying u=some .string)(hi:P.info? e=some i)(b:Option Addr)(len cap:Nat)(q:len<=cap)(s:ByteArray)(h0:s.size=0):(Builtin.append_ #[t,u] ty #[.slice b len cap,.string s]).run P w=.ok (.slice b len cap) w:=by have hf:=Lib.run_firstCells_string (P:=P) w i.size s;rw[h0]at hf;have he:Lib.strCells s=[]:=zA (by rw[Lib.strCells_length,h0]);rw[he]at hf;cases b<;>simp[Builtin.append_,run_underlying ht,run_underlying hu,sizeOf,typeInfo,hi,Builtin.lenOf,h0,q,hf,storeCells]
def xIj{t tt ty e:TypeId}(hu:P.underlying t=some (.slice e))(J:P.underlying tt=some .string){i0:TypeInfo}(O:P.info? e=some i0)(s:ByteArray):ASrc P w A M t tt ty e 1 (.string s) (s.data.toList.map λ(u:UInt8)=>.int .u8 u.toNat) true:=by
 have hsz:(s.data.toList.map λ(u:UInt8)=>AV.int .u8 u.toNat).length=s.size:=by rw[za,Array.length_toList];rfl
 rcases Nat.eq_zero_or_pos s.size with q|q;exact .inl ⟨zA (by rw[hsz,q]),λ b len cap V=>xte hu J O b len cap V s q⟩;refine .inr ⟨by rw[hsz];exact q,λ y hy=>?_,Lib.strCells s,by rw[Lib.strCells_length,hsz,Nat.mul_one],λ i j hi hj=>?_,λ i z hi hz hs=>⟨λ h1 h2=>?_,λ b' sLen sCap olds h1 h2 h3 h4 h5=>?_,λ g sLen sCap cur h1 h2 h3=>?_⟩⟩;obtain⟨u,_,rfl⟩:=zK.1 hy;rfl;have Q:j=0:=Ω
 subst Q;rw[hsz]at hi;have hi':i<s.data.toList.length:=by rw[Array.length_toList];exact hi
 simp only[Nat.mul_one,Nat.add_zero,z7,List.getElem?_map,ze hi',Option.map_some,zh];have hc:(Lib.strCells s)[i]?=some (.int .u8 (s.data.toList[i].toNat:Int)):=by simp[Lib.strCells,List.getElem?_map,ze hi']
 rw[hc];exact .int _ _;rw[hsz]at h1 h2|-;exact xtI w t tt ty e i z hu J hi hz s q h1 h2;rw[hsz]at h3 h4 h5|-;exact Lib.run_append_grow_string (P:=P) w t tt ty e i z hu J hi hz b' sLen sCap olds h1 h2 s h3 h4 h5;rw[hsz]at h2|-;rw[hs,Nat.mul_one,Lib.strCells_length]at h3|-;exact Lib.run_append_room_string (P:=P) w t tt ty e i hu J hi hs g sLen sCap cur h1 s h2 h3
def QW(hR:HR w A M B H){t tt ty e:TypeId}{te:TI}(Q:bN P e=some te)(J:0<te.sz)(hu:P.underlying t=some (.slice e)){i0:TypeInfo}(O:P.info? e=some i0)(hx:aD w A M v x)(h:gb P H t tt e te.sz x=some (ys,pm)):ASrc P w A M t tt ty e te.sz v ys pm:=by
 unfold gb at h;split at h;rename_i Z;subst Z;exact xFh hR J hu O hx h;split at h;case h_2=>simp at h
 rename_i tj ab s Y q;split at h;case h_2=>simp at h
 rename_i W aa;split at h;case isFalse=>simp at h
 rename_i hsz;rw[Q]at q;obtain rfl:=(z6 _ _).mp q;cases h;have V:P.underlying tt=some .string:=by rw[vM Y,W]
 cases hx with|str s=>rw[hsz];exact xIj hu V O s
variable {c:Call}{o:Oper}{os ox:Operand}{xs:AV}{ρc:Operand->Value}
def xDs(hR:HR w A M B H)(hB:B<=w.heap.size){t tt e:TypeId}{te:TI}{r:AV}(ho:o.op=.call c)(ca:c.callee=.builtin .append)(cg:c.argTypes.toList=[t,tt])(cj:c.args.toList=[os,ox])(hs:aD w A M (ρc os) xs)(b4:bN P e=some te)(hu:P.underlying t=some (.slice e))(an:∀v,v=ρc ox->ASrc P w A M t tt o.type e te.sz v ys pm)(h:jx H e te xs ys pm=some (r,H')):Writes P o ρc w A M B r H':=by
 unfold jx at h;obtain⟨i,z,ay,cl,a4,ai,ba,bh,_⟩:=me b4;have ag:bW e=false:=FN b4;have hts':c.argTypes=#[t,tt]:=by apply Array.ext';simpa using cg
 have has':c.args=#[os,ox]:=by apply Array.ext';simpa using cj
 have Y:∀v w',(Builtin.append_ #[t,tt] o.type #[ρc os,ρc ox]).run P w=.ok v w'->(execOp ρc o).run P w=.ok (.value v) w':=by intro v w' hv;simp[execOp,ho,resolve,ca,hts',has',invoke,builtin,hv,Go.resolve]
 replace an:=an _ rfl;split at h;have ac:ρc os=.slice none 0 0:=by generalize ρc os=v at hs;cases hs;rfl
 rw[ac]at Y;split at h;case isFalse=>simp at h
 rename_i bj;obtain⟨b0,a8,bf,ab⟩:=bj;cases h;rcases an with⟨rfl,a0⟩|⟨b2,ad,news,V,ar,Q⟩;obtain⟨g1,g2,g3⟩:=hR.virt te.sz e pm;exact⟨_,w,A,_,.slice none 0 0,Y _ _ (a0 none 0 0 (zd _)),.inl rfl,Below.refl _ _,g2.ext,λ _ _=>Iff.rfl,λ _ _ _=>rfl,g2.touch,g1,g3 none⟩;have cm:ys.length<=4611686018427387904:=bf;have a2:aD w A M z te.zero:=by rw[bh];exact nX w A M z
 obtain⟨b5,_⟩:=a2.cells (lg ab);have bt:=jM ab;have q:=(Q i z ay a4 ai.symm).nil Ω (by rw[<-ba];omega);have ae:=grownCap_ge w ys.length 0 e;have af:=grownCap_le_maxLen w ys.length 0 e (by unfold maxLen;omega);generalize hcap:grownCap w ys.length 0 e=cap at q ae af;have co:H.length<(H++[(⟨0,te.sz,e,ys,false,pm⟩:aC)]).length:=by simp
 have hR':HR w.drew A M B (H++[⟨0,te.sz,e,ys,false,pm⟩]):=hR.drew.append _;have ak:(Builtin.zeroCells z.cells (cap - ys.length)).size=(cap - ys.length)*te.sz:=by rw[size_zeroCells];congr 1;omega
 have cd:=FO (bx:=⟨0,te.sz,e,ys,false,pm⟩) (nid:=H.length) (c:=news.toArray++Builtin.zeroCells z.cells (cap - ys.length)) (cap:=cap) hR' (by simpa using hB) (hR.free_of_length (zd _)) ag Ψ af
  (by rw[Array.size_append,List.size_toArray,V,ak,<-Nat.add_mul];congr 1;omega) ae ad
  (fun i' j aa hj=>by
   have hk:i'*te.sz+j<ys.length*te.sz:=mi aa hj;have e1:(news.toArray++Builtin.zeroCells z.cells (cap - ys.length)).getD (i'*te.sz+j) undef=news.getD (i'*te.sz+j) undef:=by
    simp only[zu,Array.getElem?_append,List.size_toArray,V,hk,if_true,List.getElem?_toArray,z7]
   rw [e1];exact (ar _ _ aa hj).grow ⟨rfl,rfl,rfl,zd _,fun _ _=>rfl⟩)
 obtain⟨s1,s2,s3,s4,s5⟩:=cd;have J:Below w.heap.size w (w.drew.alloc (.cells (news.toArray++Builtin.zeroCells z.cells (cap - ys.length)) e)):=((Below.refl _ _).drew).alloc Ψ _;exact ⟨_,_,_,_,_,Y _ _ q,.inl rfl,J.mono hB,s1,s2,fun b hb _=>J.block b hb,.of_new J (fun id m' ap=>by
  by_cases b6:id=.b H.length
  . subst b6;exact s3.2 m' ap
  . rw [s3.1 id b6] at ap;exact .inl ap),s4,.osl _ H.length 0 0 ys.length _ s5 (zd _) rfl fun _=>⟨by simpa using ae,some ⟨w.heap.size,0,none⟩,by simp,fun _=>by simp⟩⟩
 rename_i id ver off len;split at h;case h_2=>simp at h
 rename_i bx bz;split at h;case isFalse=>simp at h
 rename_i bj;obtain⟨rfl,ah,b3,hsz,bv,b0,a8,bf,ab⟩:=bj;cases h;have ao:bW bx.ty=false:=by rw[bv];exact ag
 obtain⟨m,a,hm,W,bc,ac,ha⟩:=rm hR hs bz;obtain⟨bb,ce⟩:=lf bz;simp only[Nat.sub_zero,zH]at ac bc;have am:m.sz=te.sz:=by rw[<-W.sz,hsz]
 have bk:m.ty=e:=by rw[<-W.ty,lZ ao,bv]
 have bo:m.ver=ver:=by rw[<-W.ver,ce]
 have ck:len+ys.length<=4611686018427387904:=bf;have a3:∀(c1:Array Value)(cap:Nat),c1.size=cap*te.sz->len+ys.length<=cap->cap<=maxLen->(∀y,y∈ys->y.okElem te.sz)->
   (∀i j,i<(bx.xs++ys).length->j<te.sz->aD w A (MP M (bx.pm&&pm)) (c1.getD (i*te.sz+j) undef) (((bx.xs++ys).getD i .top).cells.getD j .top))->
   (Builtin.append_ #[t,tt] o.type #[ρc os,ρc ox]).run P w=.ok (.slice (some ⟨w.heap.size,0,none⟩) (len+ys.length) cap) (w.drew.alloc (.cells c1 e))->
   Writes P o ρc w A M B (.osl id (ver+1) 0 (len+ys.length)) (H.set id ⟨ver+1,te.sz,e,bx.xs++ys,false,bx.pm&&pm⟩):=by
  intro c1 cap az ae af ad b9 q;have J:Below w.heap.size w (w.drew.alloc (.cells c1 e)):=((Below.refl _ _).drew).alloc Ψ _
  let m1:MB:=⟨w.heap.size,ver+1,te.sz,cap,e⟩;have a1:aR M (aV M id m1):=CK hm (.inr (by simp[m1,bo]))
  have hA:∀b,b<w.heap.size->(jw A w.heap.size false b->A b):=λ b hb h=>by
   rcases h with h|⟨h,_⟩
   . exact h
   . omega
  have a5:∀u x,aD w A (MP M (bx.pm&&pm)) u x->aD (w.drew.alloc (.cells c1 e)) (jw A w.heap.size false) (MP (aV M id m1) (bx.pm&&pm)) u x:=λ u x hr=>hr.mono (λ b hb _=>J.block b hb) J.size hA (Ls a1 _)
  refine⟨_,_,jw A w.heap.size false,aV M id m1,_,Y _ _ q,.inl rfl,J.mono hB,a1,λ b hb=>⟨hA b hb,.inl⟩,λ b hb _=>J.block b hb,.of_new J (λ i m' ap=>?_),⟨?_,?_,?_⟩,.osl _ id (ver+1) 0 (len+ys.length) m1 (by simp[aV]) (zd _) rfl λ _=>⟨by simpa[m1]using ae,some ⟨w.heap.size,0,none⟩,by simp[m1],λ _=>by simp[m1]⟩⟩
  . by_cases aw:i=id
    . subst aw;have:m'=m1:=by simp[aV]at ap;exact ap.symm
      subst this;exact .inr (zd _)
    . exact .inl (by simpa[aV,aw]using ap)
  . intro i' m2 aj;by_cases aw:i'=id
    . subst aw;have:m2=m1:=by simp[aV]at aj;exact aj.symm
      subst this;refine⟨_,by rw[iQ,zL (j6 bb)],⟨rfl,rfl,lZ ag,af,by simp[m1];omega,xuH (λ x hx=>by have:=W.ok x hx;rwa [am]at this) ad,λ _=>by simpa[m1]using hB,λ _=>by simp[m1],λ _=>⟨c1,.of (kG ag) (by simpa[m1]using heap_alloc_new w.drew (.cells c1 e)),by simpa[m1]using az,?_⟩,λ _=>⟨λ _=>.inr ⟨rfl,rfl⟩,λ _=>rfl⟩⟩⟩
      intro i j hi hj;rw[jL ag,jY ag];exact a5 _ _ (b9 i j hi hj)
    . have au:M i'=some m2:=by simpa[aV,aw]using aj
      obtain⟨bn,g1,g2⟩:=hR.box i' m2 au;exact⟨bn,by rw[rM bb ao ag aw];exact g1,g2.mono (λ h0=>J.block _ (g2.lt h0)) (λ b hb _=>J.block b hb) J.size hA (λ h0=>⟨λ hf=>.inl ((g2.guard h0).1 hf),λ hf=>(g2.guard h0).2 (hA _ (g2.lt h0) hf)⟩) a1⟩
  . intro i' a9 m2 m3 aj au b7 b1 he;by_cases aa:i'=id<;>by_cases aq:a9=id
    . rw[aa,aq]
    . exfalso;have g1:m2=m1:=by simp[aV,aa]at aj;exact aj.symm
      have g2:M a9=some m3:=by simpa[aV,aq]using au
      obtain⟨bn,_,g3⟩:=hR.box a9 m3 g2;have:=g3.lt b1;rw[<-he,g1]at this;simp[m1]at this
    . exfalso;have g1:m3=m1:=by simp[aV,aq]at au;exact au.symm
      have g2:M i'=some m2:=by simpa[aV,aa]using aj
      obtain⟨bn,_,g3⟩:=hR.box i' m2 g2;have:=g3.lt b7;rw[he,g1]at this;simp[m1]at this
    . exact hR.inj i' a9 m2 m3 (by simpa[aV,aa]using aj) (by simpa[aV,aq]using au) b7 b1 he
  . intro b hb;rcases hb with hb|⟨rfl,_⟩
    . have:=hR.lt b hb;simp;omega
    . simp
 rcases Nat.eq_zero_or_pos m.cap with O|O;have bw:bx.xs=[]:=zA Ω;have cc:len=0:=Ω
 subst cc;rw[O]at ac;rcases an with⟨rfl,a0⟩|⟨b2,ad,news,V,ar,Q⟩;obtain⟨g1,g2,g3⟩:=xGQ (m':=⟨m.b,ver+1,m.sz,m.cap,m.ty⟩) (bx':=⟨ver+1,te.sz,e,bx.xs++[],false,bx.pm&&pm⟩) hR O hm bb ao ag rfl rfl (.inr (by simp[bo])) rfl am.symm bk.symm (by simp[bw]);exact⟨_,_,A,_,_,Y _ _ (by rw[ac];simpa using a0 a 0 0 (zd _)),.inl rfl,Below.refl _ _,g2,λ _ _=>Iff.rfl,λ _ _ _=>rfl,g3,g1,.osl _ id (ver+1) 0 0 ⟨m.b,ver+1,m.sz,m.cap,m.ty⟩ (by simp[aV]) (zd _) rfl λ _=>⟨by simp,a,by simp[O],λ h=>by simp at h;omega⟩⟩;have a2:aD w A M z te.zero:=by rw[bh];exact nX w A M z
 obtain⟨b5,_⟩:=a2.cells (lg ab);have bt:=jM ab;have ae:=grownCap_ge w (0+ys.length) 0 e;have af:=grownCap_le_maxLen w (0+ys.length) 0 e (by unfold maxLen;omega);have ak:(Builtin.zeroCells z.cells (grownCap w (0+ys.length) 0 e - ys.length)).size=(grownCap w (0+ys.length) 0 e - ys.length)*te.sz:=by rw[size_zeroCells];congr 1;omega
 refine a3 (news.toArray++Builtin.zeroCells z.cells (grownCap w (0+ys.length) 0 e - ys.length)) (grownCap w (0+ys.length) 0 e) (by rw[Array.size_append,List.size_toArray,V,ak,<-Nat.add_mul];congr 1;omega) ae af ad (λ i' j aa hj=>?_) ?_;rw[bw,zU]at aa|-;have hk:i'*te.sz+j<ys.length*te.sz:=mi aa hj;have e1:(news.toArray++Builtin.zeroCells z.cells (grownCap w (0+ys.length) 0 e - ys.length)).getD (i'*te.sz+j) undef=news.getD (i'*te.sz+j) undef:=by simp only[zu,Array.getElem?_append,List.size_toArray,V,hk,if_true,List.getElem?_toArray,z7]
 rw[e1];exact(ar _ _ aa hj).mp_and';rw[ac];cases a with|none=>have q:=(Q i z ay a4 ai.symm).nil Ω (by rw[<-ba];simp at a8;omega);simpa using q|some a=>have q:=(Q i z ay a4 ai.symm).grow a 0 0 [] Ψ Ψ Ω Ω (growslice_fits Ω (by rw[<-ba];exact a8));simpa using q
 have cf:=ha O;subst cf;simp only[Nat.zero_mul]at ac;obtain⟨c0,h1,h2,h3⟩:=W.cells O;replace h1:=h1.plain (W.nomap (kG ao));replace h3:∀i j,i<bx.xs.length->j<m.sz->aD w A (MP M bx.pm) (c0.getD (i*m.sz+j) undef) ((bx.xs.getD i .top).cells.getD j .top):=λ i j hi hj=>by have:=h3 i j hi hj;rw[jL ao,jY ao]at this;exact this
 have cp:A m.b:=(W.guard O).1 b3;rw[am]at h2 h3;rw[bk]at h1;have al:∀(news:List Value),news.length=ys.length*te.sz->(∀y,y∈ys->y.okElem te.sz)->len+ys.length<=m.cap->
   (∀i j,i<ys.length->j<te.sz->aD w A (MP M pm) (news.getD (i*te.sz+j) undef) ((ys.getD i .top).cells.getD j .top))->
   (Builtin.append_ #[t,tt] o.type #[ρc os,ρc ox]).run P w=.ok (.slice (some ⟨m.b,0,none⟩) (len+ys.length) m.cap) (w.setRow m.b (pA c0.toList (len*te.sz) news).toArray)->
   Writes P o ρc w A M B (.osl id (ver+1) 0 (len+ys.length)) (H.set id ⟨ver+1,te.sz,e,bx.xs++ys,false,bx.pm&&pm⟩):=by
  intro news V ad Z b8 q;have ax:len*te.sz+news.length<=c0.toList.length:=by
   have ci:c0.toList.length=m.cap*te.sz:=by simpa using h2
   rw[V,<-Nat.add_mul,ci];exact Nat.mul_le_mul_right _ Z
  obtain⟨g1,g2,g3,g4,gt,g5⟩:=KB (m':=⟨m.b,ver+1,m.sz,m.cap,m.ty⟩) (bx':=⟨ver+1,te.sz,e,bx.xs++ys,false,bx.pm&&pm⟩) hR O hm bb W ao ag b3 (c':=(pA c0.toList (len*te.sz) news).toArray) rfl rfl rfl rfl (.inr (by simp[bo]))
   rfl am.symm bk.symm rfl (by simp;omega) (by rw[am];exact xuH (λ x hx=>by rw[<-am];exact W.ok x hx) ad)
   (by have:=J2 ax;simp at this|-;rw[this,h2,am])
   (by
    rw[am];intro i j hi hj;rw[yk];refine xyB (M:=MP M (bx.pm&&pm)) (c:=c0.toList) V (λ i j hi hj=>by rw[rW];exact(h3 i j hi hj).mp_and) (λ i j hi hj=>(b8 i j hi hj).mp_and') (λ k hk=>?_) (λ k hk=>?_) i j hi hj
    . rw[Cj ax,if_neg (by rw[ah];omega)]
    . rw [Cj ax,if_pos (by rw [ah,V];omega),<-ah,show len*te.sz+k - len*te.sz=k by omega])
  exact⟨_,_,A,_,_,Y _ _ q,.inl rfl,g4,g2,λ _ _=>Iff.rfl,g3,gt,g1,.osl _ id (ver+1) 0 (len+ys.length) ⟨m.b,ver+1,m.sz,m.cap,m.ty⟩ (by simp[aV]) (zd _) rfl λ _=>⟨by simpa using Z,some ⟨m.b,0,none⟩,by simp,λ _=>by simp⟩⟩
 have bi:len<=m.cap:=bc;rcases an with⟨rfl,a0⟩|⟨b2,ad,news,V,ar,Q⟩;refine al [] Ψ Ψ (by simpa using bi) Ψ ?_;have ch:(pA c0.toList (len*te.sz) []).toArray=c0:=by simp[pA]
 have bq:w.setRow m.b c0=w:=setRow_self w m.b c0 e (0,0) h1;rw[ch,bq,ac];simpa using a0 (some ⟨m.b,0,none⟩) len m.cap bi;by_cases Z:len+ys.length<=m.cap;refine al news (V) ad Z (λ i j hi hj=>ar _ _ hi hj) ?_;have bg:len*i.size+news.length<=c0.size:=by rw[V,<-ai,<-Nat.add_mul,h2];exact Nat.mul_le_mul_right _ Z
 have:=(Q i z ay a4 ai.symm).room m.b len m.cap c0 h1 Z bg;rw[ac,this];rw[<-ai];rfl;have be:∀j u,(c0.toList.take (len*te.sz))[j]?=some u->w.cell? ((⟨m.b,0,none⟩:Addr).add j)=some u:=by intro j u a7;rw[List.getElem?_take]at a7;split at a7;rw[ri,zH];simp[World.cell?,h1];simpa using a7;simp at a7
 have a6:(c0.toList.take (len*te.sz)).length=len*te.sz:=by simp only[zt,Array.length_toList,h2];have:len*te.sz<=m.cap*te.sz:=Nat.mul_le_mul_right _ bi;omega
 have q:=(Q i z ay a4 ai.symm).grow ⟨m.b,0,none⟩ len m.cap (c0.toList.take (len*te.sz)) (by rw[a6,ai]) be Ω Ω (growslice_fits Ω (by rw[<-ba];exact a8));have ae:=grownCap_ge w (len+ys.length) m.cap e;have af:=grownCap_le_maxLen w (len+ys.length) m.cap e (by unfold maxLen;omega);generalize hcap:grownCap w (len+ys.length) m.cap e=cap at q ae af;have a2:aD w A M z te.zero:=by rw[bh];exact nX w A M z
 obtain⟨b5,_⟩:=a2.cells (lg ab);have bt:=jM ab;have ak:(Builtin.zeroCells z.cells (cap - (len+ys.length))).size=(cap - (len+ys.length))*te.sz:=by rw[size_zeroCells];congr 1;omega
 generalize bp:(c0.toList.take (len*te.sz)).toArray++news.toArray++Builtin.zeroCells z.cells (cap - (len+ys.length))=c1 at q;have az:c1.size=cap*te.sz:=by rw[<-bp];simp only[Array.size_append,List.size_toArray,a6,V,ak,<-Nat.add_mul];congr 1;omega
 have cb:∀k,k<bx.xs.length*te.sz->c1.toList.getD k undef=c0.toList.getD k undef:=by intro k hk;rw[<-ah]at hk;rw[<-bp];simp only[Array.toList_append,zw,z7,zP,a6,hk,if_true,List.getElem?_take]
 have bu:∀k,k<ys.length*te.sz->c1.toList.getD (bx.xs.length*te.sz+k) undef=news.getD k undef:=by intro k hk;rw[<-ah,<-bp];simp only[Array.toList_append,zw,z7,zP,a6,show ¬ len*te.sz+k<len*te.sz by omega,if_false,V,show len*te.sz+k - len*te.sz=k by omega,hk,if_true]
 refine a3 c1 cap az ae af ad (λ i j hi hj=>?_) (by rw[ac];exact q);rw[<-rW];exact xyB (M:=MP M (bx.pm&&pm)) (c:=c0.toList) (V) (λ i j hi hj=>by rw[rW];exact(h3 i j hi hj).mp_and) (λ i j hi hj=>(ar _ _ hi hj).mp_and') cb bu i j hi hj;simp at h
variable {xx:AV}
def xu9(hR:HR w A M B H)(hB:B<=w.heap.size){t tt:TypeId}{r:AV}(ho:o.op=.call c)(O:c.callee=.builtin .append)(Y:c.argTypes.toList=[t,tt])(Z:c.args.toList=[os,ox])(hs:aD w A M (ρc os) xs)(hx:aD w A M (ρc ox) xx)(h:y8 P H t tt xs xx=some (r,H')):Writes P o ρc w A M B r H':=by
 unfold y8 at h;split at h;case h_2=>simp at h
 rename_i ti W;split at h;case h_2=>simp at h
 rename_i e hd;split at h;case h_2=>simp at h
 rename_i te q;split at h;case h_2=>simp at h
 rename_i ys pm V;have hu:P.underlying t=some (.slice e):=by rw[vM W,hd]
 have J:0<te.sz:=by unfold jx at h;split at h;split at h;(case isFalse=>simp at h);rename_i hc;exact hc.1;split at h;(case h_2=>simp at h);split at h;(case isFalse=>simp at h);rename_i hc;exact hc.2.2.2.2.2.1;simp at h
 obtain⟨i,z,Q,_⟩:=me q;exact xDs hR hB ho O Y Z hs q hu (λ v hv=>by subst hv;exact QW hR q J hu Q hx V) h
def HR.rebuild(hR:HR w A M B H)(S:Nat->Prop)(hH:∀k,¬ S k->k<H.length->H'[k]?=H[k]?)(hM:∀j:Id,¬ S j.base->M' j=M j)(J:∀(j:Id) m,¬ S j.base->M j=some m->0<m.cap->w'.heap[m.b]?=w.heap[m.b]?/\(A m.b->A' m.b))(hw:∀b,b<w.heap.size->¬ A b->w'.heap[b]?=w.heap[b]?)(hs:w.heap.size<=w'.heap.size)(hA:∀b,b<w.heap.size->A' b->A b)(V:aR M M')(O:∀(j:Id) m,S j.base->M' j=some m->∃bx,getB H' j=some bx/\BoxAt w' A' M' B j m bx)(q:∀(j:Id) m j' m',S j.base->M' j=some m->M' j'=some m'->0<m.cap->0<m'.cap->m.b=m'.b->j=j')(W:∀b,A' b->b<w'.heap.size):HR w' A' M' B H':=by refine⟨λ j m hm=>?_,λ j j' m m' h1 h2 c1 c2 he=>?_,W⟩;by_cases hj:S j.base;exact O j m hj hm;rw[hM j hj]at hm;obtain⟨bx,g1,g2⟩:=hR.box j m hm;refine⟨bx,by rw[FQ (hH _ hj (vO g1))];exact g1,g2.mono (λ h0=>(J j m hj hm h0).1) hw hs hA (λ h0=>?_) V⟩;rw[g2.guard h0];exact⟨(J j m hj hm h0).2,hA _ (g2.lt h0)⟩;by_cases hj:S j.base;exact q j m j' m' hj h1 h2 c1 c2 he;by_cases Q:S j'.base;exact(q j' m' j m Q h2 h1 c2 c1 he.symm).symm;rw[hM j hj]at h1;rw[hM j' Q]at h2;exact hR.inj j j' m m' h1 h2 c1 c2 he
variable {j:Nat}
def QU{e v:AV}(hj:j<sz)(hl:e.cells.length=sz)(hv:v.cells=[v]):(putCells e j 1 sz v).cells.length=sz/\∀k,k<sz->(putCells e j 1 sz v).cells.getD k .top=if k=j then v else e.cells.getD k .top:=by
 unfold putCells;split;rename_i hw;obtain⟨rfl,rfl⟩:=hw;refine⟨by rw[hv];rfl,λ k hk=>?_⟩;have:k=0:=Ω
 subst this;rw[if_pos rfl,hv];rfl;have q:min j e.cells.length=j:=Ω
 refine⟨by rw[yy,hv];simp;omega,λ k hk=>?_⟩;simp only[yy,hv,zw,z7,zP,zt,q];by_cases O:k<j;simp[O,List.getElem?_take,show ¬ k=j by omega];by_cases J:k=j;subst J;simp;simp only[O,if_false,zF,List.length_nil,show ¬ (k - j<1) by omega,J,List.getElem?_drop];congr 2;omega
def Q6{e v:AV}(hj:j<sz)(he:e.okElem sz)(hv:v.cells=[v])(ho:v.one):(putCells e j 1 sz v).okElem sz:=by have hl:=jM he;obtain⟨h1,h2⟩:=QU hj hl hv;have h3:=lg he;simp only[AV.okElem,h1,beq_self_eq_true,Bool.true_and];rw[zI]at h3|-;intro y hy;obtain⟨k,hk,rfl⟩:=vG hy;rw[h1]at hk;rw[h2 k hk];split;exact ho;exact h3 _ (jA Ω)
def iR(bx:aC)(ver i j:Nat)(v:AV):aC:=⟨ver,bx.sz,bx.ty,bx.xs.set i (putCells (bx.xs.getD i .top) j 1 bx.sz v),bx.frz,bx.pm⟩
variable {bx:aC}{i:Nat}
def xvI{ver:Nat}{v:AV}(hi:i<bx.xs.length)(hj:j<bx.sz)(hl:(bx.xs.getD i .top).cells.length=bx.sz)(hv:v.cells=[v]){i':Nat}(hk:k<bx.sz):((iR bx ver i j v).xs.getD i' .top).cells.getD k .top=if i'=i/\k=j then v else(bx.xs.getD i' .top).cells.getD k .top:=by
 have hp:=QU (e:=bx.xs.getD i .top) (v:=v) hj hl hv;unfold iR;by_cases q:i'=i;subst q;have e1:(bx.xs.set i' (putCells (bx.xs.getD i' .top) j 1 bx.sz v)).getD i' .top=putCells (bx.xs.getD i' .top) j 1 bx.sz v:=by simp[z7,hi]
 rw[e1,hp.2 k hk];simp;have e1:(bx.xs.set i (putCells (bx.xs.getD i .top) j 1 bx.sz v)).getD i' .top=bx.xs.getD i' .top:=by simp[z7,List.getElem?_set,show ¬ i=i' from λ h=>q h.symm]
 rw[e1,if_neg (λ h=>q h.1)]
def HR.detach(hR:HR w A M B H){m:MB}(hb:H[n]?=some bx)(an:de bx.ty j)(hx:(bx.xs.getD i .top).cells.getD j .top=.list sz ys)(hj:j<bx.sz)(ap:(bx.xs.getD i .top).cells.length=bx.sz)(hm:M (.r n i j)=some m):
  let M':Id->Option MB:=λ x=>if x=.b H.length then some ⟨m.b,0,m.sz,m.cap,m.ty⟩else if x=.r n i j then some ⟨0,m.ver+1,0,0,m.ty⟩else M x
  HR w A M' B (H.set n (iR bx bx.ver i j (.int .i64 ys.length))++[⟨0,sz,bM bx.ty,ys,bx.frz,true⟩])/\Mv w A M w A M'/\∀v,aD w A M v (pC n i j (.list sz ys))->aD w A M' v (.osl H.length 0 0 ys.length):=by
 intro M';obtain⟨rb,g1,g2⟩:=hR.box _ m hm;have ac:bW bx.ty:=pN an;obtain⟨g4,g5,g6,g7⟩:=pP hb ac g1;rw[hx]at g7;subst g7;have ai:2*ys.length=m.ver:=g2.ver;have hsz:sz=m.sz:=g2.sz;have ah:bM bx.ty=m.ty:=by have:=g2.ty;rw[T1,lZ (pf _)]at this;exact this
 have hn:n<H.length:=j6 hb;have ae:=hR.free_of_length (n:=H.length) (zd _);have az:(Id.r n i j)≠.b H.length:=λ e=>by cases e
 have Y:M' (.b H.length)=some ⟨m.b,0,m.sz,m.cap,m.ty⟩:=by simp[M']
 have W:M' (.r n i j)=some ⟨0,m.ver+1,0,0,m.ty⟩:=by simp[M']
 have O:∀x:Id,x≠.b H.length->x≠.r n i j->M' x=M x:=λ x h1 h2=>by simp[M',h1,h2]
 have ak:∀x m0,M x=some m0->x≠.b H.length:=λ x m0 h e=>by rw[e,ae.1]at h;cases h
 have Q:aR M M':=λ x m0 h=>by
  by_cases q:x=.r n i j
  . subst q;rw[hm]at h;cases h;exact⟨_,W,.inr (Nat.lt_succ_self _)⟩
  . exact⟨m0,by rw[O x (ak x m0 h) q];exact h,.inl rfl⟩
 have Z:∀x m',M' x=some m'->0<m'.cap->∃y m0,M y=some m0/\m0.b=m'.b/\m0.cap=m'.cap/\(x=.b H.length/\y=.r n i j\/x=y/\y≠.r n i j):=λ x m' h h0=>by
  by_cases h1:x=.b H.length
  . subst h1;rw[Y]at h;cases h;exact⟨_,m,hm,rfl,rfl,.inl ⟨rfl,rfl⟩⟩
  . by_cases h2:x=.r n i j
    . subst h2;rw[W]at h;cases h;exact absurd h0 Ψ
    . rw[O x h1 h2]at h;exact⟨x,m',h,rfl,rfl,.inr ⟨rfl,h2⟩⟩
 have aj:∀(x:Id) m1 x' m2,M' x=some m1->M' x'=some m2->0<m1.cap->0<m2.cap->m1.b=m2.b->x=x':=λ x m1 x' m2 h1 h2 c1 c2 he=>by
  obtain⟨y,n1,a1,a2,a3,a4⟩:=Z x m1 h1 c1;obtain⟨y',n2,b1,b2,b3,b4⟩:=Z x' m2 h2 c2;have:=hR.inj y y' n1 n2 a1 b1 Ω Ω (by rw[a2,b2,he])
  subst this;rcases a4 with⟨rfl,e1⟩|⟨rfl,e1⟩<;>rcases b4 with⟨rfl,e2⟩|⟨rfl,e2⟩
  . rfl
  . exact absurd e1 e2
  . exact absurd e2 e1
  . rfl
 have aq:∀{v:Value}{x:AV},aD w A M v x->aD w A M' v x:=λ h=>h.mono (λ _ _ _=>rfl) (zd _) (λ _ _ h=>h) Q
 have af:(H.set n (iR bx bx.ver i j (.int .i64 ys.length))++[⟨0,sz,bM bx.ty,ys,bx.frz,true⟩])[n]?=some (iR bx bx.ver i j (.int .i64 ys.length)):=by
  rw[zO (by simpa using hn),zL hn]
 have J:(iR bx bx.ver i j (.int .i64 ys.length)).xs.length=bx.xs.length:=by simp[iR]
 have V:∀i' k,k<bx.sz->((iR bx bx.ver i j (.int .i64 ys.length)).xs.getD i' .top).cells.getD k .top=if i'=i/\k=j then .int .i64 ys.length else(bx.xs.getD i' .top).cells.getD k .top:=λ i' k hk=>xvI g6 hj ap rfl hk
 have ad:∀k,de bx.ty k->k=j:=λ k hk=>by
  have hc:=pN hk;unfold de at hk g4;rw[hc]at hk g4;rw[zg hk,zg g4]
 refine ⟨hR.rebuild (fun k=>k=n\/k=H.length) (fun k hk al=>?_) (fun x q=>O x (fun e=>q (.inr (by rw [e];rfl))) fun e=>q (.inl (by rw [e];rfl))) (fun _ _ _ _ _=>⟨rfl,fun h=>h⟩) (fun _ _ _=>rfl) (zd _) (fun _ _ h=>h) Q (fun x m' hS q=>?_) (fun x m1 x' m2 _ h1 h2 c1 c2 he=>aj x m1 x' m2 h1 h2 c1 c2 he) hR.lt,
  ⟨zd _,fun _ _ _=>rfl,fun _ _ h=>h,fun _ _ h _=>h,Q,⟨fun _ _ _=>rfl,fun x m' h h0=>?_⟩⟩,fun v hv=>?_⟩
 . rw[zO (by simpa using al),zX (λ e=>hk (.inl e.symm))]
 . by_cases h1:x=.b H.length
   ·
    subst h1;rw[Y]at q;cases q;have ag:bW (bM bx.ty)=false:=pf _;refine⟨⟨0,sz,bM bx.ty,ys,bx.frz,true⟩,by rw[iQ,List.getElem?_append_right Ψ];simp,rfl,hsz,by rw[lZ ag];exact ah,g2.capm,g2.fits,g2.ok,g2.low,g2.lt,λ h0=>?_,λ h0=>g2.guard h0⟩
    obtain⟨c,c1,c2,c3⟩:=g2.cells h0;refine⟨c,c1,c2,λ i' j' aa aw=>?_⟩
    have h4:=c3 i' j' aa aw;rw[jL (t:=(iT bx (.list sz ys)).ty) (pf _),jY (bx:=iT bx (.list sz ys)) (pf _)]at h4;rw[jL ag,jY ag];exact h4
   . by_cases h2:x=.r n i j
     ·
      subst h2;rw[W]at q;cases q;have ay:∃rb,getB (H.set n (iR bx bx.ver i j (.int .i64 ys.length))++[⟨0,sz,bM bx.ty,ys,bx.frz,true⟩]) (.r n i j)=some rb/\rb=⟨2*ys.length+1,0,bM bx.ty,[],bx.frz,true⟩:=by
       refine⟨_,?_,rfl⟩;rw[oH af ac g4 g5 (by rw[J];exact g6),V i j hj,if_pos ⟨rfl,rfl⟩]
       simp[iT,eK,iR]
      obtain⟨rb,r1,rfl⟩:=ay;have hc:∀{p:Prop},0<(0:Nat)->p:=λ h=>absurd h Ψ
      exact⟨_,r1,by simp only;omega,rfl,by rw[lZ (pf _)];exact ah,zQ _,zQ _,λ x hx=>by simp at hx,hc,hc,hc,hc⟩
     . have ab:x.base=n:=by
        rcases hS with h|h
        . exact h
        . rw[O x h1 h2]at q;rw[hR.none_of_base (by rw[h];exact zd _)]at q;cases q
       rw[O x h1 h2]at q;obtain⟨bx',k1,k2⟩:=hR.box x m' q;cases x with
       |r n' i' j'=>
        simp only[Id.base]at ab;subst ab;have k3:getB (H.set n' (iR bx bx.ver i j (.int .i64 ys.length))++[⟨0,sz,bM bx.ty,ys,bx.frz,true⟩]) (.r n' i' j')=some bx':=by
         obtain⟨e2,e3,e4,e5⟩:=pP hb ac k1;have ao:=ad j' e2;subst ao;have ax:i'≠i:=λ e=>h2 (by rw[e])
         rw[oH af ac e2 e3 (by rw[J];exact e4),V i' j' hj,if_neg (λ e=>ax e.1),e5]
         rfl
        exact⟨bx',k3,k2.mono (λ _=>rfl) (λ _ _ _=>rfl) (zd _) (λ _ _ h=>h) k2.guard Q⟩
       |b n'=>
        simp only[Id.base]at ab;subst ab;rw[iQ,hb]at k1;cases k1;have k4:=k2.mono (w':=w) (λ _=>rfl) (λ _ _ _=>rfl) (zd _) (λ _ _ h=>h) k2.guard Q
        refine⟨_,af,k4.ver,k4.sz,k4.ty,k4.capm,by rw[J];exact k4.fits,λ y hy=>?_,k4.low,k4.lt,λ h0=>?_,k4.guard⟩
        . rcases List.mem_or_eq_of_mem_set hy with hy|rfl
          . exact k4.ok y hy
          . rw[<-k4.sz];exact Q6 hj (by rw[k4.sz];exact k4.ok _ (jA g6)) rfl rfl
        . obtain⟨c,c1,c2,c3⟩:=k4.cells h0;refine⟨c,by rw[J];exact c1,c2,λ i' k aa hk=>?_⟩
          rw[J]at aa;have h4:=c3 i' k aa hk;have ar:MV M' (iR bx bx.ver i j (.int .i64 ys.length)) k=MV M' bx k:=rfl;have am:fy n' i' k (iR bx bx.ver i j (.int .i64 ys.length)).ty (((iR bx bx.ver i j (.int .i64 ys.length)).xs.getD i' .top).cells.getD k .top)=fy n' i' k bx.ty ((bx.xs.getD i' .top).cells.getD k .top):=by
           rw[V i' k (by rw[k4.sz];exact hk)]
           split
           . rename_i au;obtain⟨rfl,rfl⟩:=au;show fy n' i' k bx.ty _=_;unfold fy;rw[g4,hx];rfl
           . rfl
          simp only[Id.base];rw[ar,am];exact h4
 . obtain⟨y,m0,a1,a2,a3,_⟩:=Z x m' h h0;exact .inl ⟨y,m0,a1,by omega,a2.symm⟩
 . obtain⟨m1,b1,b2,b3,b4⟩:=aD.osl_inv hv;rw[hm]at b1;cases b1;obtain⟨e1,a,e2,e3⟩:=b4 ai;exact .osl v (.b H.length) 0 0 ys.length _ Y (zd _) b3 λ _=>⟨e1,a,e2,e3⟩
def gc:AV->Option Nat|.int _ l=>some l.toNat|_=>none
def gI(P:Program)(H:List aC)(t:TypeId)(a v:AV):Option (List aC):=match bN P t,a,v with|some ti,.own (.b n) ver i j,.osl (.b id) ver2 off len=>(match dW H (.b n) ver,dW H (.b id) ver2 with|some bx,some b2=>(match gc ((bx.xs.getD i .top).cells.getD j .top)with|some l0=>if ti.sz=1/\bx.frz=false/\de bx.ty j/\bx.pm/\j<bx.sz/\i<bx.xs.length/\(bx.xs.getD i .top).cells.length=bx.sz/\b2.frz=false/\b2.pm/\bW b2.ty=false/\b2.ty=bM bx.ty/\off=0/\len=b2.xs.length/\l0<len then some ((H.set id ⟨ver2+1,b2.sz,b2.ty,[],false,true⟩).set n (iR bx ver i j (.list b2.sz b2.xs)))else none|none=>none)|_,_=>none)|_,_,_=>none
def xDr(hR:HR w A M B H){t:TypeId}{oa ov:Operand}{xa xv:AV}(ho:o.op=.store t oa ov)(ha:aD w A M (ρc oa) xa)(hv:aD w A M (ρc ov) xv)(h:gI P H t xa xv=some H'):Writes P o ρc w A M B (.tuple []) H':=by
 unfold gI at h;split at h;case h_2=>simp at h
 rename_i ti n ver i j id Q off len b7;split at h;case h_2=>simp at h
 rename_i bx b2 az ar;split at h;case h_2=>simp at h
 rename_i l0 Z;split at h;case isFalse=>simp at h
 rename_i bv;obtain⟨bz,be,W,bj,ao,hi,bw,bb,bg,ab,bf,rfl,rfl,cb⟩:=bv;cases h;obtain⟨m,hm,q,b9⟩:=tW hR ha az;obtain⟨m2,a2,am,O,bp,a8,ce⟩:=rm hR hv ar;obtain⟨aj,bh⟩:=lf az;obtain⟨ah,aq⟩:=lf ar;rw[iQ]at aj ah;have hne:id≠n:=λ e=>by subst e;rw[aj]at ah;cases ah;have:=pN W;rw[ab]at this;cases this
 have V:0<m.cap:=by have:=q.fits;omega
 obtain⟨c,h1,h2,h3⟩:=q.cells V;have a9:dD m.ty=false:=q.nomap (qZ az);replace h1:=h1.plain a9;have hsz:=q.sz;have bn:j<m.sz:=Ω
 have ax:(ρc ov).cells=#[ρc ov]:=by rw[a8];rfl
 have aw:(ρc ov).cells.size=1:=by rw[ax];rfl
 have bo:i*m.sz+m.sz<=c.size:=by rw[h2];have:(i+1)*m.sz<=m.cap*m.sz:=Nat.mul_le_mul_right _ (Nat.le_trans hi q.fits);rw[Nat.add_mul,Nat.one_mul]at this;exact this
 have ap:i*m.sz+j+(ρc ov).cells.toList.length<=c.toList.length:=by simp[aw];omega
 have ay:=run_storeCells_at P m.b (i*m.sz+j) m.ty (ρc ov).cells.toList 0 c w h1 (by simp [aw];omega) (fun u hu=>by
  rw [ax] at hu;simp only [zv] at hu;subst hu;rw [a8];rfl)
 simp only[Nat.add_zero]at ay;have bq:A m.b:=(q.guard V).1 be;generalize a0:(pA c.toList (i*m.sz+j) (ρc ov).cells.toList).toArray=c' at ay;have bu:c'.size=m.cap*m.sz:=by rw[<-a0];have:=J2 ap;simp at this|-;omega
 have bk:∀k,c'.getD k undef=if k=i*m.sz+j then ρc ov else c.getD k undef:=λ k=>by rw[<-a0,yk,Cj ap,ax];by_cases hk:k=i*m.sz+j;subst hk;simp;rw[if_neg (by simp;omega),if_neg hk,rW]
 have hs:(w.setRow m.b c').heap.size=w.heap.size:=by simp[World.setRow]
 have hw:∀b,b<w.heap.size->¬ A b->(w.setRow m.b c').heap[b]?=w.heap[b]?:=λ b _ hb=>setRow_other w m.b b c' λ e=>hb (e▸bq);let M':Id->Option MB:=λ x=>if x=.b id then some ⟨m2.b,m2.ver+1,m2.sz,0,m2.ty⟩else if x=.r n i j then some ⟨m2.b,2*b2.xs.length,m2.sz,m2.cap,m2.ty⟩else M x;have ai:M' (.b id)=some ⟨m2.b,m2.ver+1,m2.sz,0,m2.ty⟩:=by simp[M']
 have ag:M' (.r n i j)=some ⟨m2.b,2*b2.xs.length,m2.sz,m2.cap,m2.ty⟩:=by simp[M']
 have aa:∀x:Id,x≠.b id->x≠.r n i j->M' x=M x:=λ x h1 h2=>by simp[M',h1,h2]
 have ca:∀m0,M (.r n i j)=some m0->m0.cap=0/\m0.ver<2*b2.xs.length->m0.ver<2*b2.xs.length:=λ _ _ h=>h.2;have bi:∀m0,M (.r n i j)=some m0->m0.ver<2*b2.xs.length:=λ m0 h0=>by obtain⟨rb,k1,k2⟩:=hR.box _ m0 h0;obtain⟨k4,k5,k6,k7⟩:=pP aj (pN W) k1;have k8:=k2.ver;rw[k7]at k8;unfold gc at Z;split at Z;rename_i kk l hl;simp only[z6]at Z;rw[hl]at k8;simp only[iT,eK]at k8;omega;simp at Z
 have Y:aR M M':=λ x m0 h0=>by by_cases e1:x=.b id;subst e1;rw[am]at h0;cases h0;exact⟨_,ai,.inr (Nat.lt_succ_self _)⟩;by_cases e2:x=.r n i j;subst e2;exact⟨_,ag,.inr (bi m0 h0)⟩;exact⟨m0,by rw[aa x e1 e2];exact h0,.inl rfl⟩
 have ak:∀x m',M' x=some m'->0<m'.cap->∃y m0,M y=some m0/\m0.b=m'.b/\m0.cap=m'.cap/\(x=.r n i j/\y=.b id\/x=y/\y≠.b id/\y≠.r n i j):=λ x m' h h0=>by by_cases e1:x=.b id;subst e1;rw[ai]at h;cases h;exact absurd h0 Ψ;by_cases e2:x=.r n i j;subst e2;rw[ag]at h;cases h;exact⟨_,m2,am,rfl,rfl,.inl ⟨rfl,rfl⟩⟩;rw[aa x e1 e2]at h;exact⟨x,m',h,rfl,rfl,.inr ⟨rfl,e1,e2⟩⟩
 have ba:∀(x:Id) m1 x' m2,M' x=some m1->M' x'=some m2->0<m1.cap->0<m2.cap->m1.b=m2.b->x=x':=λ x m1 x' m2 h1 h2 c1 c2 he=>by obtain⟨y,n1,a1,a2,a3,a4⟩:=ak x m1 h1 c1;obtain⟨y',n2,b1,b2,b3,b4⟩:=ak x' m2 h2 c2;have:=hR.inj y y' n1 n2 a1 b1 Ω Ω (by rw[a2,b2,he]);subst this;rcases a4 with⟨rfl,e1⟩|⟨rfl,e1,_⟩<;>rcases b4 with⟨rfl,e2⟩|⟨rfl,e2,_⟩;rfl;exact absurd e1 e2;exact absurd e2 e1;rfl
 have af:∀(x:Id) m0,x≠.b n->M x=some m0->0<m0.cap->(w.setRow m.b c').heap[m0.b]?=w.heap[m0.b]?:=λ x m0 hx h0 c0=>setRow_other w m.b m0.b c' λ e=>hx (hR.inj x (.b n) m0 m h0 hm c0 V e);have hn:n<H.length:=j6 aj;have b0:id<H.length:=j6 ah;have a5:((H.set id ⟨Q+1,b2.sz,b2.ty,[],false,true⟩).set n (iR bx ver i j (.list b2.sz b2.xs)))[n]?=some (iR bx ver i j (.list b2.sz b2.xs)):=zL (by simpa using hn);have bc:((H.set id ⟨Q+1,b2.sz,b2.ty,[],false,true⟩).set n (iR bx ver i j (.list b2.sz b2.xs)))[id]?=some ⟨Q+1,b2.sz,b2.ty,[],false,true⟩:=by rw[zX (Ne.symm hne),zL b0]
 have ad:(iR bx ver i j (.list b2.sz b2.xs)).xs.length=bx.xs.length:=by simp[iR]
 have ac:∀i' k,k<bx.sz->((iR bx ver i j (.list b2.sz b2.xs)).xs.getD i' .top).cells.getD k .top=if i'=i/\k=j then .list b2.sz b2.xs else(bx.xs.getD i' .top).cells.getD k .top:=λ i' k hk=>xvI hi ao bw rfl hk;have au:∀k,de bx.ty k->k=j:=λ k hk=>by have hc:=pN hk;unfold de at hk W;rw[hc]at hk W;rw[zg hk,zg W]
 have hR':HR (w.setRow m.b c') A M' B ((H.set id ⟨Q+1,b2.sz,b2.ty,[],false,true⟩).set n (iR bx ver i j (.list b2.sz b2.xs))):=by refine hR.rebuild (λ k=>k=n\/k=id) (λ k hk cd=>?_) (λ x J=>aa x (λ e=>J (.inr (by rw[e];rfl))) λ e=>J (.inl (by rw[e];rfl))) (λ x m0 J h0 c0=>⟨af x m0 (λ e=>J (.inl (by rw[e];rfl))) h0 c0,λ h=>h⟩) hw (by rw[hs];exact zd _) (λ _ _ h=>h) Y (λ x m' hS J=>?_) (λ x m1 x' m2 _ h1 h2 c1 c2 he=>ba x m1 x' m2 h1 h2 c1 c2 he) (λ b hb=>by rw[hs];exact hR.lt b hb);rw[zX (λ e=>hk (.inl e.symm)),zX (λ e=>hk (.inr e.symm))];by_cases e1:x=.b id;(subst e1;rw[ai]at J;cases J;have hc:∀{p:Prop},0<(0:Nat)->p:=λ h=>absurd h Ψ);exact⟨(⟨Q+1,b2.sz,b2.ty,[],false,true⟩:aC),bc,by simp only;rw[<-O.ver,aq],O.sz,O.ty,zQ _,zQ _,λ x hx=>by simp at hx,hc,hc,hc,hc⟩;by_cases e2:x=.r n i j;(subst e2;rw[ag]at J;cases J;have b6:getB ((H.set id ⟨Q+1,b2.sz,b2.ty,[],false,true⟩).set n (iR bx ver i j (.list b2.sz b2.xs))) (.r n i j)=some ⟨2*b2.xs.length,b2.sz,bM bx.ty,b2.xs,bx.frz,true⟩:=by rw[oH a5 (pN W) W bj (by rw[ad];exact hi),ac i j ao,if_pos ⟨rfl,rfl⟩];rfl);have k4:=O.mono (w':=w.setRow m.b c') (A':=A) (M':=M') (λ h0=>af (.b id) m2 (λ e=>hne (by injection e)) am h0) hw (by rw[hs];exact zd _) (λ _ _ h=>h) O.guard Y;refine⟨_,b6,rfl,k4.sz,by rw[<-bf];exact k4.ty,k4.capm,k4.fits,k4.ok,k4.low,k4.lt,λ h0=>?_,λ h0=>?_⟩;obtain⟨cc,c1,c2,c3⟩:=k4.cells h0;refine⟨cc,c1,c2,λ i' k al hk=>?_⟩;have h4:=c3 i' k al hk;rw[jL ab,jY ab,bg]at h4;rw[jL (pf _),jY (bx:=⟨2*b2.xs.length,b2.sz,bM bx.ty,b2.xs,bx.frz,true⟩) (pf _)];exact h4;have:=k4.guard h0;rw[bb]at this;rw[be];exact this;by_cases ae:x.base=id;(rw[aa x e1 e2]at J;obtain⟨bx',k1,k2⟩:=hR.box x m' J;cases x with|b k=>exact absurd (by rw[<-ae];rfl) e1|r k i' j'=>simp only[Id.base]at ae;subst ae;rw[pg ah ab]at k1;cases k1;exact⟨fY,pg bc ab,k2.mono (λ h0=>af _ m' (λ e=>by cases e) J h0) hw (by rw[hs];exact zd _) (λ _ _ h=>h) k2.guard Y⟩);(have an:x.base=n:=by rcases hS with h|h;exact h;exact absurd h ae);rw[aa x e1 e2]at J;obtain⟨bx',k1,k2⟩:=hR.box x m' J;cases x with|r n' i' j'=>((simp only[Id.base]at an;subst an;have k3:getB ((H.set id ⟨Q+1,b2.sz,b2.ty,[],false,true⟩).set n' (iR bx ver i j (.list b2.sz b2.xs))) (.r n' i' j')=some bx':=by obtain⟨a7,e3,e4,e5⟩:=pP aj (pN W) k1;have bt:=au j' a7;subst bt;have b8:i'≠i:=λ e=>e2 (by rw[e]);rw[oH a5 (pN W) a7 e3 (by rw[ad];exact e4),ac i' j' ao,if_neg (λ e=>b8 e.1),e5];rfl);exact⟨bx',k3,k2.mono (λ h0=>af _ m' (λ e=>by cases e) J h0) hw (by rw[hs];exact zd _) (λ _ _ h=>h) k2.guard Y⟩)|b n'=>simp only[Id.base]at an;subst an;rw[hm]at J;cases J;refine⟨iR bx ver i j (.list b2.sz b2.xs),a5,by rw[<-q.ver,bh];rfl,q.sz,q.ty,q.capm,by rw[ad];exact q.fits,λ y hy=>?_,q.low,λ h0=>by rw[hs];exact q.lt h0,λ h0=>?_,q.guard⟩;rcases List.mem_or_eq_of_mem_set hy with hy|rfl;exact q.ok y hy;rw[<-q.sz];exact Q6 ao (by rw[q.sz];exact q.ok _ (jA hi)) rfl rfl;refine⟨c',.of a9 (setRow_heap w m.b c c' m.ty (0,0) h1),bu,λ i' k al hk=>?_⟩;rw[ad]at al;have b5:MV M' (iR bx ver i j (.list b2.sz b2.xs)) k=MV M' bx k:=rfl;show aD _ _ (MV M' (iR bx ver i j (.list b2.sz b2.xs)) k) _ (fy n' i' k bx.ty _);rw[b5,ac i' k Ω,bk];by_cases a6:i'=i/\k=j;obtain⟨rfl,rfl⟩:=a6;rw[if_pos rfl,if_pos ⟨rfl,rfl⟩];unfold MV fy;rw[W];obtain⟨m3,q1,q2,q3,q4⟩:=aD.osl_inv hv;rw[am]at q1;cases q1;obtain⟨q5,a,q6,q7⟩:=q4 (by rw[<-aq,O.ver]);exact .osl _ (.r n' i' k) _ _ _ _ ag (zd _) q3 λ _=>⟨q5,a,q6,q7⟩;rw[if_neg a6,if_neg (λ e=>a6 (xKy hk bn e))];exact(h3 i' k al hk).mono hw (by rw[hs];exact zd _) (λ _ _ h=>h) (Ti Y bx k)
 refine⟨.skip,w.setRow m.b c',A,M',undef,?_,.inr ⟨rfl,rfl⟩,⟨rfl,rfl,rfl,by rw[hs];exact zd _,λ k hk=>setRow_other w m.b k c' λ e=>by have:=q.low V;omega⟩,Y,λ _ _=>Iff.rfl,hw,⟨λ b _ hb=>setRow_other w m.b b c' λ e=>hb (.b n) m hm V e.symm,λ x m' h h0=>?_⟩,hR',.tuple #[] [] rfl Ψ⟩;simp only[execOp,ho,b9,Instr.storeAt,Instr.sureAddr,storeVar,Sem.run_bind,Sem.run_pure,Result.andThen_ok,nk b7,bz,aw,ne_eq,not_true,if_false];rw[ay,<-a0];rfl;obtain⟨y,m0,a1,a2,a3,_⟩:=ak x m' h h0;exact .inl ⟨y,m0,a1,by omega,a2.symm⟩
def newRow(t:TypeId)(sz:Nat)(y:AV):AV:=putCells y (jP t) 1 sz (.list (fF t) [])
def xwv{t:TypeId}{y:AV}(hs:jP t<sz)(hy:y.okElem sz)(hk:k<sz):(newRow t sz y).cells.getD k .top=if k=jP t then .list (fF t) []else y.cells.getD k .top:=(QU hs (jM hy) rfl).2 k hk
def Gr{t:TypeId}:de t k->k=jP t:=λ h=>by have hc:=pN h;unfold de at h;rw[hc]at h;exact zg h
def HR.grown(hR:HR w A M B H){m m':MB}{c':Array Value}(hm:M (.b n)=some m)(hb:H[n]?=some bx)(V:BoxAt w A M B (.b n) m bx)(a7:bx.frz=false)(hC:bW bx.ty)(ay:dD m.ty=false)(ao:bx.pm)(ad:jP bx.ty<m.sz)(hw:∀b,b<w.heap.size->¬ A b->w'.heap[b]?=w.heap[b]?)(hs:w.heap.size<=w'.heap.size)(hA:∀b,b<w.heap.size->A' b->A b)(Z:∀x m0,x≠.b n->M x=some m0->0<m0.cap->w'.heap[m0.b]?=w.heap[m0.b]?/\(A m0.b->A' m0.b))(e1:m'.ver=m.ver+1)(e2:m'.sz=m.sz)(e3:m'.ty=m.ty)(hcap:bx.xs.length+ys.length<=m'.cap)(a9:m'.cap<=maxLen)(am:B<=m'.b)(az:m'.b<w'.heap.size)(be:A' m'.b)(hc:w'.heap[m'.b]?=some (.cells c' m'.ty (0,0)))(a5:c'.size=m'.cap*m.sz)(a6:m'.b=m.b/\0<m.cap\/w.heap.size<=m'.b)(au:∀i j,i<bx.xs.length->j<m.sz->aD w A (MV M bx j) (c'.getD (i*m.sz+j) undef) (fy n i j bx.ty ((bx.xs.getD i .top).cells.getD j .top)))(ax:∀i j,i<ys.length->j<m.sz->aD w A er (c'.getD ((bx.xs.length+i)*m.sz+j) undef) ((ys.getD i .top).cells.getD j .top))(ai:∀y,y∈ys->y.okElem m.sz)(an:∀y,y∈ys->y.cells.getD (jP bx.ty) .top=.nils)(ar:∀b,A' b->b<w'.heap.size):∃M',HR w' A' M' B (H.set n ⟨bx.ver+1,bx.sz,bx.ty,bx.xs++ys.map (newRow bx.ty bx.sz),false,true⟩)/\aR M M'/\M' (.b n)=some m'/\∀x m0,M' x=some m0->0<m0.cap->x=.b n/\m0=m'\/M x=some m0/\x≠.b n:=by
 have hn:n<H.length:=j6 hb;let M':Id->Option MB:=λ x=>if x=.b n then some m' else match x with|.b _=>M x|.r k i j=>if k=n/\bx.xs.length<=i/\i<bx.xs.length+ys.length/\j=jP bx.ty then some ⟨0,0,fF bx.ty,0,bM bx.ty⟩else M x
 have aa:M' (.b n)=some m':=by simp[M']
 have ag:∀i,bx.xs.length<=i->i<bx.xs.length+ys.length->M' (.r n i (jP bx.ty))=some ⟨0,0,fF bx.ty,0,bM bx.ty⟩:=λ i h1 h2=>by simp[M',h1,h2]
 have Y:∀x:Id,x≠.b n->(∀i,bx.xs.length<=i->i<bx.xs.length+ys.length->x≠.r n i (jP bx.ty))->M' x=M x:=λ x h1 h2=>by cases x with|b k=>simp[M',h1]|r k i j=>have:¬ (k=n/\bx.xs.length<=i/\i<bx.xs.length+ys.length/\j=jP bx.ty):=λ⟨a1,a2,a3,a4⟩=>h2 i a2 a3 (by rw[a1,a4]);simp[M',this]
 have ah:∀i j,bx.xs.length<=i->M (.r n i j)=none:=λ i j hi=>by cases h:M (.r n i j)with|none=>rfl|some m0=>obtain⟨rb,k1,_⟩:=hR.box _ m0 h;obtain⟨_,_,k3,_⟩:=pP hb hC k1;omega
 have Q:aR M M':=λ x m0 h0=>by by_cases h1:x=.b n;subst h1;rw[hm]at h0;cases h0;exact⟨m',aa,.inr Ω⟩;exact⟨m0,by rw[Y x h1 λ i hi _ e=>by subst e;rw[ah i _ hi]at h0;cases h0];exact h0,.inl rfl⟩
 have ab:∀x m0,M' x=some m0->x=.b n/\m0=m'\/(∃i,bx.xs.length<=i/\i<bx.xs.length+ys.length/\x=.r n i (jP bx.ty)/\m0=⟨0,0,fF bx.ty,0,bM bx.ty⟩)\/(M x=some m0/\x≠.b n):=λ x m0 h=>by by_cases h1:x=.b n;subst h1;rw[aa]at h;simp only[z6]at h;exact .inl ⟨rfl,h.symm⟩;by_cases h2:∃i,bx.xs.length<=i/\i<bx.xs.length+ys.length/\x=.r n i (jP bx.ty);obtain⟨i,a1,a2,rfl⟩:=h2;rw[ag i a1 a2]at h;simp only[z6]at h;exact .inr (.inl ⟨i,a1,a2,rfl,h.symm⟩);rw[Y x h1 λ i a1 a2 e=>h2 ⟨i,a1,a2,e⟩]at h;exact .inr (.inr ⟨h,h1⟩)
 have q:∀x m0,M' x=some m0->0<m0.cap->x=.b n/\m0=m'\/M x=some m0/\x≠.b n:=λ x m0 h h0=>by rcases ab x m0 h with h|⟨i,_,_,_,rfl⟩|h;exact .inl h;exact absurd h0 Ψ;exact .inr h
 have ap:∀x m0,M x=some m0->x≠.b n->0<m0.cap->m0.b≠m'.b:=λ x m0 h hx h0 e=>by rcases a6 with⟨h1,h2⟩|h1;exact hx (hR.inj x (.b n) m0 m h hm h0 h2 (by rw[e,h1]));obtain⟨bf,_,k2⟩:=hR.box x m0 h;have:=k2.lt h0;omega
 have J:(bx.xs++ys.map (newRow bx.ty bx.sz)).length=bx.xs.length+ys.length:=by simp
 have aj:(H.set n ⟨bx.ver+1,bx.sz,bx.ty,bx.xs++ys.map (newRow bx.ty bx.sz),false,true⟩)[n]?=some ⟨bx.ver+1,bx.sz,bx.ty,bx.xs++ys.map (newRow bx.ty bx.sz),false,true⟩:=zL hn;have hsz:=V.sz;have aq:∀i,i<bx.xs.length->(bx.xs++ys.map (newRow bx.ty bx.sz)).getD i .top=bx.xs.getD i .top:=λ i hi=>by simp[z7,zP,hi]
 have aw:∀i,i<ys.length->(bx.xs++ys.map (newRow bx.ty bx.sz)).getD (bx.xs.length+i) .top=newRow bx.ty bx.sz (ys.getD i .top):=λ i hi=>by simp[z7,zP,hi]
 have O:de bx.ty (jP bx.ty):=by unfold de;rw[hC];exact Nat.beq_refl _
 refine⟨M',hR.rebuild (λ k=>k=n) (λ k hk _=>zX (λ e=>hk e.symm)) (λ x hx=>Y x (λ e=>hx (by rw[e];rfl)) λ i _ _ e=>hx (by rw[e];rfl)) (λ x m0 hx h0 c0=>Z x m0 (λ e=>hx (by rw[e];rfl)) h0 c0) hw hs hA Q (λ x m0 hx a8=>?_) (λ x m1 x' m2 _ h1 h2 c1 c2 he=>?_) ar,Q,aa,q⟩;rcases ab x m0 a8 with⟨rfl,rfl⟩|⟨i,a1,a2,rfl,rfl⟩|⟨h0,hne⟩;refine⟨_,aj,by simp only;rw[V.ver,e1],by rw[e2];exact hsz,by rw[e3];exact V.ty,a9,by rw[J];exact hcap,λ y hy=>?_,λ _=>am,λ _=>az,λ _=>⟨c',.of (by rw[e3];exact ay) hc,by rw[e2];exact a5,λ i j hi hj=>?_⟩,λ _=>⟨λ _=>be,λ _=>rfl⟩⟩;rw[e2];rcases zG.1 hy with hy|hy;exact V.ok y hy;obtain⟨y0,ba,rfl⟩:=zK.1 hy;rw[hsz];exact Q6 ad (ai y0 ba) rfl rfl;rw[e2]at hj|-;rw[J]at hi;have bc:MV M' (⟨bx.ver+1,bx.sz,bx.ty,bx.xs++ys.map (newRow bx.ty bx.sz),false,true⟩:aC) j=MV M' bx j:=by unfold MV;rw[ao]
 show aD _ _ (MV M' _ j) _ (fy n i j bx.ty _);rw[bc];by_cases al:i<bx.xs.length;rw[aq i al];exact(au i j al hj).mono hw hs hA (Ti Q bx j);obtain⟨i0,rfl⟩:∃i0,i=bx.xs.length+i0:=⟨i - bx.xs.length,by omega⟩;have W:i0<ys.length:=Ω
 have h4:=ax i0 j W hj;have af:=jA W;rw[aw i0 W,xwv (by rw[hsz];exact ad) (by rw[hsz];exact ai _ af) (by rw[hsz];exact hj)];by_cases ak:j=jP bx.ty;subst ak;rw[if_pos rfl];rw[an _ af]at h4;have hv:c'.getD ((bx.xs.length+i0)*m.sz+jP bx.ty) undef=.slice none 0 0:=by generalize c'.getD ((bx.xs.length+i0)*m.sz+jP bx.ty) undef=u at h4;cases h4;rfl
 unfold MV fy;rw[O,hv];exact .osl _ (.r n _ _) _ _ _ _ (ag _ (Nat.le_add_right _ _) Ω) (zd _) rfl λ _=>⟨zd _,none,rfl,λ h=>absurd h Ψ⟩;have a0:de bx.ty j=false:=by cases hq:de bx.ty j with|false=>rfl|true=>exact absurd (Gr hq) ak
 rw[if_neg ak];unfold MV fy;rw[a0,ao];exact h4.mono hw hs hA (aR.refl _);obtain⟨i0,rfl⟩:∃i0,i=bx.xs.length+i0:=⟨i - bx.xs.length,by omega⟩;have W:i0<ys.length:=Ω
 have ae:∀{p:Prop},0<(0:Nat)->p:=λ h=>absurd h Ψ;refine⟨⟨0,fF bx.ty,bM bx.ty,[],false,true⟩,?_,rfl,rfl,lZ (pf _),zQ _,zQ _,λ y hy=>by simp at hy,ae,ae,ae,ae⟩;rw[oH aj hC O rfl (by rw[J];omega)];simp only;rw[aw i0 W,xwv (by rw[hsz];exact ad) (by rw[hsz];exact ai _ (jA W)) (by rw[hsz];exact ad),if_pos rfl];rfl;have ac:x.base=n:=hx;obtain⟨rb,k1,k2⟩:=hR.box x m0 h0;cases x with|b k=>simp only[Id.base]at ac;subst ac;exact absurd rfl hne|r k i j=>simp only[Id.base]at ac;subst ac;obtain⟨q2,q3,q4,q5⟩:=pP hb hC k1;have bb:bx.frz=false:=a7;refine⟨rb,?_,k2.mono (λ c0=>(Z _ m0 hne h0 c0).1) hw hs hA (λ c0=>?_) Q⟩;rw[oH aj hC q2 rfl (by rw[J];omega)];simp only;rw[aq i q4,q5];generalize (bx.xs.getD i .top).cells.getD j .top=z;cases z<;>simp[iT,bb];rw[k2.guard c0];exact⟨(Z _ m0 hne h0 c0).2,hA _ (k2.lt c0)⟩
 rcases q x m1 h1 c1 with⟨rfl,rfl⟩|⟨a1,a2⟩<;>rcases q x' m2 h2 c2 with⟨rfl,rfl⟩|⟨b1,b2⟩;rfl;exact absurd he.symm (ap x' m2 b1 b2 c2);exact absurd he (ap x m1 a1 a2 c1);exact hR.inj x x' m1 m2 a1 b1 c1 c2 he
def nG:AV->Bool|.nils=>true|_=>false
def iV(P:Program)(H:List aC)(t tt:TypeId)(s x:AV):Option (AV×List aC):=match bN P t,s with|some ti,.osl (.b n) ver off len=>(match ti.d with|.slice e=>(match bN P e,dW H (.b n) ver with|some te,some bx=>(match gb P H t tt e te.sz x with|some (ys,pm)=>if off=0/\len=bx.xs.length/\bx.frz=false/\bx.sz=te.sz/\bW bx.ty/\gA bx.ty=e/\bx.pm/\pm/\jP bx.ty<te.sz/\0<te.sz/\(len+ys.length)*te.bytes<=140737488355328/\len+ys.length<=f7/\te.zero.okElem te.sz/\0<ys.length/\ys.all (λ y=>nG (y.cells.getD (jP bx.ty) .top)) then some (.osl (.b n) (ver+1) 0 (len+ys.length),H.set n ⟨ver+1,te.sz,bx.ty,bx.xs++ys.map (newRow bx.ty te.sz),false,true⟩)else none|none=>none)|_,_=>none)|_=>none)|_,_=>none
set_option maxHeartbeats 1000000 in
def xFf(hR:HR w A M B H)(hB:B<=w.heap.size){t tt:TypeId}{r:AV}(ho:o.op=.call c)(bi:c.callee=.builtin .append)(b2:c.argTypes.toList=[t,tt])(b8:c.args.toList=[os,ox])(hs:aD w A M (ρc os) xs)(hx:aD w A M (ρc ox) xx)(h:iV P H t tt xs xx=some (r,H')):Writes P o ρc w A M B r H':=by
 unfold iV at h;split at h;case h_2=>simp at h
 rename_i ti n ver off len b6;split at h;case h_2=>simp at h
 rename_i e hd;split at h;case h_2=>simp at h
 rename_i te bx bc al;split at h;case h_2=>simp at h
 rename_i ys pm b0;split at h;case isFalse=>simp at h
 rename_i bz;obtain⟨rfl,ad,a0,hsz,hC,bo,a7,rfl,a9,ba,az,bn,aw,b3,a6⟩:=bz;simp only[z6,zb]at h;obtain⟨rfl,rfl⟩:=h;have hu:P.underlying t=some (.slice e):=by rw[vM b6,hd]
 obtain⟨i,z,ai,ca,ar,ab,a2,bt,_⟩:=me bc;have bj:=QW (ty:=o.type) hR bc ba hu ai hx b0;have hts':c.argTypes=#[t,tt]:=by apply Array.ext';simpa using b2
 have has':c.args=#[os,ox]:=by apply Array.ext';simpa using b8
 have ak:∀v w',(Builtin.append_ #[t,tt] o.type #[ρc os,ρc ox]).run P w=.ok v w'->(execOp ρc o).run P w=.ok (.value v) w':=by intro v w' hv;simp[execOp,ho,resolve,bi,hts',has',invoke,builtin,hv,Go.resolve]
 rcases bj with⟨rfl,_⟩|⟨_,bp,news,ac,a5,Z⟩;simp at b3;obtain⟨m,a,hm,O,au,ae,ha⟩:=rm hR hs al;obtain⟨a3,bb⟩:=lf al;rw[iQ]at a3;simp only[Nat.sub_zero,zH]at ae au;have W:m.sz=te.sz:=by rw[<-O.sz,hsz]
 have be:m.ty=e:=by rw[<-O.ty,bo]
 have bf:m.ver=ver:=by rw[<-O.ver,bb]
 have b9:len+ys.length<=4611686018427387904:=bn;have hnil':∀y,y∈ys->y.cells.getD (jP bx.ty) .top=.nils:=λ y hy=>by have:=zI.1 a6 y hy;generalize y.cells.getD (jP bx.ty) .top=q at this;cases q<;>first|rfl|(simp[nG]at this)
 have hok':∀y,y∈ys->y.okElem m.sz:=λ y hy=>by rw[W];exact bp y hy
 have hH':(⟨ver+1,te.sz,bx.ty,bx.xs++ys.map (newRow bx.ty te.sz),false,true⟩:aC)=⟨bx.ver+1,bx.sz,bx.ty,bx.xs++ys.map (newRow bx.ty bx.sz),false,true⟩:=by rw[hsz,bb]
 rw[hH'];have b5:aD w A M z te.zero:=by rw[bt];exact nX w A M z
 obtain⟨cd,_⟩:=b5.cells (lg aw);have cb:=jM aw;have an:∀(c1:Array Value)(cap:Nat),c1.size=cap*te.sz->len+ys.length<=cap->cap<=maxLen->
   (∀i j,i<bx.xs.length->j<m.sz->aD w A (MV M bx j) (c1.getD (i*m.sz+j) undef) (fy n i j bx.ty ((bx.xs.getD i .top).cells.getD j .top)))->
   (∀k,k<ys.length*te.sz->c1.getD (len*te.sz+k) undef=news.getD k undef)->
   (Builtin.append_ #[t,tt] o.type #[ρc os,ρc ox]).run P w=.ok (.slice (some ⟨w.heap.size,0,none⟩) (len+ys.length) cap) (w.drew.alloc (.cells c1 e))->
   Writes P o ρc w A M B (.osl (.b n) (ver+1) 0 (len+ys.length)) (H.set n ⟨bx.ver+1,bx.sz,bx.ty,bx.xs++ys.map (newRow bx.ty bx.sz),false,true⟩):=by
  intro c1 cap aj ag af bg bh Q;have Y:Below w.heap.size w (w.drew.alloc (.cells c1 e)):=((Below.refl _ _).drew).alloc (by simp) _
  have hA:∀b,b<w.heap.size->(jw A w.heap.size false b->A b):=λ b hb h=>by
   rcases h with h|⟨h,_⟩
   . exact h
   . omega
  have bw:(w.drew.alloc (.cells c1 e)).heap[w.heap.size]?=some (.cells c1 e (0,0)):=heap_alloc_new w.drew (.cells c1 e);obtain⟨M',g1,g2,g3,g4⟩:=hR.grown (m':=⟨w.heap.size,ver+1,te.sz,cap,e⟩) (w':=w.drew.alloc (.cells c1 e)) (A':=jw A w.heap.size false) (c':=c1) (ys:=ys) hm a3 O a0 hC (O.nomap (qZ al)) a7 (by rw[W];exact a9)
   (fun b hb _=>Y.block b hb) Y.size hA (fun x m0 _ h0 c0=>by
    obtain ⟨cc,_,k2⟩:=hR.box x m0 h0;exact ⟨Y.block _ (k2.lt c0),.inl⟩) (by simp [bf]) W.symm be.symm (by simp;omega) af hB (by simp) (.inr ⟨rfl,rfl⟩) bw (by simp [W,aj]) (.inr (zd _)) bg
   (fun i' j V hj=>by
    rw [W] at hj |-;rw [Nat.add_mul,Nat.add_assoc,<-ad,bh _ (mi V hj)];exact a5 i' j V hj) hok' hnil' (fun b hb=>by
     rcases hb with hb|⟨rfl,_⟩
     . have:=hR.lt b hb;simp;omega
     . simp)
  exact ⟨_,_,jw A w.heap.size false,M',_,ak _ _ Q,.inl rfl,Y.mono hB,g2,fun b hb=>⟨hA b hb,.inl⟩,fun b hb _=>Y.block b hb,⟨fun b hb _=>Y.block b hb,fun x m0 h0 c0=>by
   rcases g4 x m0 h0 c0 with⟨_,rfl⟩|⟨h1,_⟩
   . exact .inr (zd _)
   . exact .inl ⟨x,m0,h1,c0,rfl⟩⟩,g1,.osl _ (.b n) (ver+1) 0 (len+ys.length) _ g3 (zd _) rfl fun _=>⟨by simpa using ag,some ⟨w.heap.size,0,none⟩,by simp,fun _=>by simp⟩⟩
 rcases Nat.eq_zero_or_pos m.cap with J|J;have bq:bx.xs=[]:=zA (by omega);have bk:len=0:=by omega
 subst bk;rw[J]at ae;have ag:=grownCap_ge w (0+ys.length) 0 e;have af:=grownCap_le_maxLen w (0+ys.length) 0 e (by unfold maxLen;omega);have am:(Builtin.zeroCells z.cells (grownCap w (0+ys.length) 0 e - ys.length)).size=(grownCap w (0+ys.length) 0 e - ys.length)*te.sz:=by rw[size_zeroCells];congr 1;omega
 refine an (news.toArray++Builtin.zeroCells z.cells (grownCap w (0+ys.length) 0 e - ys.length)) (grownCap w (0+ys.length) 0 e) (by rw[Array.size_append,List.size_toArray,ac,am,<-Nat.add_mul];congr 1;omega) ag af (λ i' j V _=>by rw[bq]at V;simp at V) (λ k hk=>?_) ?_;rw[show 0*te.sz+k=k by omega];simp only[zu,Array.getElem?_append,List.size_toArray,ac,hk,if_true,List.getElem?_toArray,z7];rw[ae];cases a with|none=>have Q:=(Z i z ai ar ab.symm).nil (by omega) (by rw[<-a2];simp at az;omega);simpa using Q|some a=>have Q:=(Z i z ai ar ab.symm).grow a 0 0 [] (by simp) (by simp) (by omega) (by omega) (growslice_fits (by omega) (by rw[<-a2];exact az));simpa using Q
 have b1:=ha J;subst b1;simp only[Nat.zero_mul]at ae;obtain⟨c0,h1,h2,h3⟩:=O.cells J;replace h1:=h1.plain (O.nomap (qZ al));have a8:A m.b:=(O.guard J).1 a0;have bv:len<=m.cap:=au;by_cases aa:len+ys.length<=m.cap;have ah:len*te.sz+news.length<=c0.toList.length:=by(have b4:c0.toList.length=m.cap*te.sz:=by simp[h2,W]);rw[ac,<-Nat.add_mul,b4];exact Nat.mul_le_mul_right _ aa
 have Q:(Builtin.append_ #[t,tt] o.type #[ρc os,ρc ox]).run P w=.ok (.slice (some ⟨m.b,0,none⟩) (len+ys.length) m.cap) (w.setRow m.b (pA c0.toList (len*te.sz) news).toArray):=by(have ay:len*i.size+news.length<=c0.size:=by rw[ac,<-ab,<-Nat.add_mul,h2,W];exact Nat.mul_le_mul_right _ aa);have:=(Z i z ai ar ab.symm).room m.b len m.cap c0 (by rw[<-be];exact h1) aa ay;rw[ae,this,<-ab];rfl
 generalize a4:(pA c0.toList (len*te.sz) news).toArray=c1 at Q;have bu:c1.size=m.cap*m.sz:=by rw[<-a4];have:=J2 ah;simp at this|-;omega
 have hs':(w.setRow m.b c1).heap.size=w.heap.size:=by simp[World.setRow]
 have hw:∀b,b<w.heap.size->¬ A b->(w.setRow m.b c1).heap[b]?=w.heap[b]?:=λ b _ hb=>setRow_other w m.b b c1 λ e=>hb (e▸a8);obtain⟨M',g1,g2,g3,g4⟩:=hR.grown (m':=⟨m.b,ver+1,m.sz,m.cap,m.ty⟩) (w':=w.setRow m.b c1) (A':=A) (c':=c1) (ys:=ys) hm a3 O a0 hC (O.nomap (qZ al)) a7 (by rw[W];exact a9)
  hw (by rw[hs'];exact zd _) (λ _ _ h=>h) (λ x m0 hx h0 ap=>⟨setRow_other w m.b m0.b c1 λ e=>hx (hR.inj x (.b n) m0 m h0 hm ap J e),λ h=>h⟩) (by simp[bf]) rfl rfl (by simp;omega) O.capm (O.low J) (by rw[hs'];exact O.lt J) a8
  (setRow_heap w m.b c0 c1 m.ty (0,0) h1) bu (.inl ⟨rfl,J⟩)
  (fun i' j V hj=>by
   rw [<-a4,yk,Cj ah,if_neg (by
    have h9:=mi V hj;rw [<-ad,W] at h9;rw [W];omega),rW]
   exact h3 i' j V hj)
  (fun i' j V hj=>by
   rw[W]at hj|-;rw[Nat.add_mul,Nat.add_assoc,<-ad,<-a4,yk,Cj ah,if_pos (by have:=mi V hj;rw[ac];omega),show len*te.sz+(i'*te.sz+j) - len*te.sz=i'*te.sz+j by omega]
   exact a5 i' j V hj) hok' hnil' (fun b hb=>by rw [hs'];exact hR.lt b hb)
 exact ⟨_,w.setRow m.b c1,A,M',_,ak _ _ Q,.inl rfl,⟨rfl,rfl,rfl,by rw [hs'];exact zd _,fun k hk=>setRow_other w m.b k c1 fun e=>by have:=O.low J;omega⟩,g2,fun _ _=>Iff.rfl,hw,⟨fun b _ hb=>setRow_other w m.b b c1 fun e=>hb (.b n) m hm J e.symm,fun x m0 h0 ap=>by
  rcases g4 x m0 h0 ap with⟨_,rfl⟩|⟨b7,_⟩
  . exact .inl ⟨.b n,m,hm,J,rfl⟩
  . exact .inl ⟨x,m0,b7,ap,rfl⟩⟩,g1,.osl _ (.b n) (ver+1) 0 (len+ys.length) _ g3 (zd _) rfl fun _=>⟨by simpa using aa,some ⟨m.b,0,none⟩,by simp,fun _=>by simp⟩⟩
 have ax:∀j u,(c0.toList.take (len*te.sz))[j]?=some u->w.cell? ((⟨m.b,0,none⟩:Addr).add j)=some u:=by intro j u aq;rw[List.getElem?_take]at aq;split at aq;rw[ri,zH];simp[World.cell?,h1];simpa using aq;simp at aq
 have ao:(c0.toList.take (len*te.sz)).length=len*te.sz:=by simp only[zt,Array.length_toList,h2,W];have:len*te.sz<=m.cap*te.sz:=Nat.mul_le_mul_right _ bv;omega
 have Q:=(Z i z ai ar ab.symm).grow ⟨m.b,0,none⟩ len m.cap (c0.toList.take (len*te.sz)) (by rw[ao,ab]) ax (by omega) (by omega) (growslice_fits (by omega) (by rw[<-a2];exact az));have ag:=grownCap_ge w (len+ys.length) m.cap e;have af:=grownCap_le_maxLen w (len+ys.length) m.cap e (by unfold maxLen;omega);generalize hcap:grownCap w (len+ys.length) m.cap e=cap at Q ag af;have am:(Builtin.zeroCells z.cells (cap - (len+ys.length))).size=(cap - (len+ys.length))*te.sz:=by rw[size_zeroCells];congr 1;omega
 generalize a1:(c0.toList.take (len*te.sz)).toArray++news.toArray++Builtin.zeroCells z.cells (cap - (len+ys.length))=c1 at Q;have aj:c1.size=cap*te.sz:=by rw[<-a1];simp only[Array.size_append,List.size_toArray,ao,ac,am,<-Nat.add_mul];congr 1;omega
 refine an c1 cap aj ag af (λ i' j V hj=>?_) (λ k hk=>?_) (by rw[ae];exact Q);have hk:=mi V hj;rw[<-ad,W]at hk;have e1:c1.getD (i'*m.sz+j) undef=c0.getD (i'*m.sz+j) undef:=by rw[<-rW,<-rW,<-a1,W];simp only[Array.toList_append,zw,z7,zP,ao,hk,if_true,List.getElem?_take]
 rw[e1];exact h3 i' j V hj;rw[<-rW,<-a1];simp only[Array.toList_append,zw,z7,zP,ao,show ¬ len*te.sz+k<len*te.sz by omega,if_false,ac,show len*te.sz+k - len*te.sz=k by omega,hk,if_true]
def GP(H:List aC):AV->Bool|.own (.b n) _ _ _=>(match H[n]? with|some bx=>bW bx.ty|none=>false)|.osl (.b n) _ _ _=>(match H[n]? with|some bx=>bW bx.ty|none=>false)|_=>false
def mD:AV->Bool|.osl (.r _ _ _) _ _ _=>true|_=>false
def i7(P:Program)(H:List aC)(t tt:TypeId)(s x:AV):Option (AV×List aC):=match s with|.osl (.r n i j) ver off len=>(match H[n]? with|some bx=>(match (bx.xs.getD i .top).cells.getD j .top with|.list sz ys=>if de bx.ty j/\bx.pm/\j<bx.sz/\i<bx.xs.length/\(bx.xs.getD i .top).cells.length=bx.sz/\ver=2*ys.length/\off=0/\len=ys.length then y8 P (H.set n (iR bx bx.ver i j (.int .i64 ys.length))++[⟨0,sz,bM bx.ty,ys,bx.frz,true⟩]) t tt (.osl (.b H.length) 0 0 len) x else none|_=>none)|none=>none)|_=>none
def Writes.pre{M1:Id->Option MB}(hm:Mv w A M w A M1)(h:Writes P o ρc w A M1 B x H'):Writes P o ρc w A M B x H':=by obtain⟨n,w',A',M',v,h1,h2,h3,h4,h5,h6,h7,h8,h9⟩:=h;refine⟨n,w',A',M',v,h1,h2,h3,hm.ext.trans h4,h5,h6,⟨λ b hb J=>h7.1 b hb λ id m q h0 e=>?_,λ id m' q h0=>?_⟩,h8,h9⟩;rcases hm.touch.2 id m q h0 with⟨i,m1,g1,g2,g3⟩|g1;exact J i m1 g1 g2 (by rw[<-g3,e]);omega;rcases h7.2 id m' q h0 with⟨i,m1,g1,g2,g3⟩|g1;rcases hm.touch.2 i m1 g1 g2 with⟨i2,m2,k1,k2,k3⟩|k1;exact .inl ⟨i2,m2,k1,k2,by rw[g3,k3]⟩;exact .inr (by rw[g3];exact k1);exact .inr g1
def xGc(hR:HR w A M B H)(hB:B<=w.heap.size){t tt:TypeId}{r:AV}(ho:o.op=.call c)(J:c.callee=.builtin .append)(W:c.argTypes.toList=[t,tt])(Y:c.args.toList=[os,ox])(hs:aD w A M (ρc os) xs)(hx:aD w A M (ρc ox) xx)(h:i7 P H t tt xs xx=some (r,H')):Writes P o ρc w A M B r H':=by
 unfold i7 at h;split at h;case h_2=>simp at h
 rename_i n i j ver off len;split at h;case h_2=>simp at h
 rename_i bx hb;split at h;case h_2=>simp at h
 rename_i sz ys q;split at h;case isFalse=>simp at h
 rename_i O;obtain⟨Q,Z,hj,hi,V,rfl,rfl,rfl⟩:=O;obtain⟨m,hm,_⟩:=aD.osl_inv hs;obtain⟨d1,d2,d3⟩:=hR.detach hb Q q hj V hm;exact Writes.pre d2 (xu9 d1 hB ho J W Y (d3 _ hs) (hx.mono (λ _ _ _=>rfl) (zd _) (λ _ _ h=>h) d2.ext) h)
def xKU{t:TypeId}(q:dD t=false):bW (gA t)=false:=by unfold gA;split;rw[q];show bW (t % 1048576)=false;have h:t % 1048576<1048576:=Nat.mod_lt _ Ω;(unfold bW;cases hb:Nat.ble 1048576 (t % 1048576)with|false=>rfl|true=>have:=Nat.le_of_ble_eq_true hb;exact absurd h (Nat.not_lt.2 this));assumption
def HR.unmark(hR:HR w A M B H)(hb:H[n]?=some bx)(hC:bW bx.ty)(ag:dD bx.ty=false)(af:en bx bx.xs):∃A' M',HR w A' M' B (H.set n ⟨bx.ver,bx.sz,gA bx.ty,bx.xs,bx.frz,true⟩)/\Mv w A M w A' M'/\∀b,b<B->A b->A' b:=by
 have hn:n<H.length:=j6 hb;let A':Nat->Prop:=λ b=>A b/\¬ ∃i j m0,M (.r n i j)=some m0/\0<m0.cap/\m0.b=b;let M':Id->Option MB:=λ x=>match x with|.b _=>M x|.r k i j=>if k=n then(M x).map λ _=>⟨0,fY.ver,0,0,0⟩else M x
 have aj:∀k,M' (.b k)=M (.b k):=λ k=>rfl;have O:∀i j m0,M (.r n i j)=some m0->M' (.r n i j)=some ⟨0,fY.ver,0,0,0⟩:=λ i j m0 h=>by simp[M',h]
 have aa:∀i j,M (.r n i j)=none->M' (.r n i j)=none:=λ i j h=>by simp[M',h]
 have J:∀x:Id,x.base≠n->M' x=M x:=λ x hx=>by cases x with|b k=>rfl|r k i j=>simp only[Id.base]at hx;simp[M',hx]
 have q:=af;unfold en at q;rw[hC]at q;simp only[yZ,zf,zI]at q;obtain⟨ae,q⟩:=q;have ac:∀i j m0,M (.r n i j)=some m0->de bx.ty j/\i<bx.xs.length/\m0.ver<fY.ver:=λ i j m0 h=>by obtain⟨rb,k1,k2⟩:=hR.box _ m0 h;obtain⟨e1,e2,e3,e4⟩:=pP hb hC k1;obtain⟨ys,hy⟩:=vl (q _ (jA e3));rw[Gr e1,hy]at e4;subst e4;have h1:2*ys.length=m0.ver:=k2.ver;have h2:ys.length<=m0.cap:=k2.fits;have h3:=k2.capm;unfold maxLen at h3;refine⟨e1,e3,?_⟩;show m0.ver<1208925819614629174706176;omega
 have Z:aR M M':=λ x m0 h=>by by_cases hx:x.base=n;(cases x with|b k=>exact⟨m0,h,.inl rfl⟩|r k i j=>simp only[Id.base]at hx;subst hx;exact⟨_,O i j m0 h,.inr (ac i j m0 h).2.2⟩);exact⟨m0,by rw[J x hx];exact h,.inl rfl⟩
 have V:∀x m',M' x=some m'->0<m'.cap->M x=some m'/\∀i j,x≠.r n i j:=λ x m' h h0=>by by_cases hx:x.base=n;(cases x with|b k=>exact⟨h,λ i j e=>by cases e⟩|r k i j=>simp only[Id.base]at hx;subst hx;cases hm:M (.r k i j)with|none=>rw[aa i j hm]at h;cases h|some m0=>rw[O i j m0 hm]at h;cases h;exact absurd h0 Ψ);rw[J x hx]at h;exact⟨h,λ i j e=>hx (by rw[e];rfl)⟩
 have hA:∀b,b<w.heap.size->A' b->A b:=λ b _ h=>h.1;have Q:∀(x:Id) m0,(∀i j,x≠.r n i j)->M x=some m0->0<m0.cap->A m0.b->A' m0.b:=λ x m0 hx h h0 ai=>by refine⟨ai,?_⟩;rintro⟨i,j,m1,e1,e2,e3⟩;exact hx i j (hR.inj x (.r n i j) m0 m1 h e1 h0 e2 e3.symm)
 have ad:(H.set n ⟨bx.ver,bx.sz,gA bx.ty,bx.xs,bx.frz,true⟩)[n]?=some ⟨bx.ver,bx.sz,gA bx.ty,bx.xs,bx.frz,true⟩:=zL hn;have Y:bW (gA bx.ty)=false:=xKU ag;refine⟨A',M',hR.rebuild (λ k=>k=n) (λ k hk _=>zX (λ e=>hk e.symm)) (λ x hx=>J x hx) (λ x m0 hx h0 c0=>⟨rfl,Q x m0 (λ i j e=>hx (by rw[e];rfl)) h0 c0⟩) (λ _ _ _=>rfl) (zd _) hA Z (λ x m' hx h=>?_) (λ x m1 x' m2 _ h1 h2 c1 c2 he=>?_) (λ b hb=>hR.lt b hb.1),⟨zd _,λ _ _ _=>rfl,hA,λ b _ h ah=>⟨h,?_⟩,Z,⟨λ _ _ _=>rfl,λ x m' h h0=>.inl ⟨x,m',(V x m' h h0).1,h0,rfl⟩⟩⟩,λ b ak h=>⟨h,?_⟩⟩;cases x with|b k=>(have hx:k=n:=hx;subst hx;have h:M (.b k)=some m':=h;obtain⟨bx',k1,k2⟩:=hR.box _ m' h;rw[iQ,hb]at k1;cases k1;refine⟨_,ad,k2.ver,k2.sz,by rw[lZ Y];exact k2.ty,k2.capm,k2.fits,k2.ok,k2.low,k2.lt,λ h0=>?_,λ h0=>?_⟩;obtain⟨c,c1,c2,c3⟩:=k2.cells h0;refine⟨c,c1,c2,λ i j hi hj=>?_⟩;(have h4:=c3 i j hi hj;rw[jL Y,jY (bx:=⟨bx.ver,bx.sz,gA bx.ty,bx.xs,bx.frz,true⟩) Y];show aD w A' er _ _;cases ab:de bx.ty j with|true=>(obtain⟨ys,hy⟩:=vl (q _ (jA hi));rw[<-Gr ab]at hy;unfold fy MV at h4;simp only[ab]at h4;rw[hy]at h4|-;exact Vl hR hA hb hC hy h4 λ m0 e1 e2 e3=>e3.2 ⟨i,j,m0,e1,e2,rfl⟩)|false=>unfold fy MV at h4;simp only[ab,ae]at h4;exact h4.mono (λ _ _ _=>rfl) (zd _) hA (aR.refl _));rw[k2.guard h0];exact⟨Q (.b k) m' (λ i j e=>by cases e) h h0,λ h=>h.1⟩)|r k i j=>have hx:k=n:=hx;subst hx;cases hm:M (.r k i j)with|none=>rw[aa i j hm]at h;cases h|some m0=>(rw[O i j m0 hm]at h;cases h;have W:∀{p:Prop},0<(0:Nat)->p:=λ h=>absurd h Ψ);exact⟨fY,pg ad Y,rfl,rfl,rfl,zQ _,zQ _,λ y hy=>by simp[fY]at hy,W,W,W,W⟩
 exact hR.inj x x' m1 m2 (V x m1 h1 c1).1 (V x' m2 h2 c2).1 c1 c2 he;rintro⟨i,j,m1,e1,e2,e3⟩;exact ah _ m1 e1 e2 e3;rintro⟨i,j,m1,e1,e2,e3⟩;obtain⟨rb,_,k2⟩:=hR.box _ m1 e1;have:=k2.low e2;omega
end
section
open Go.Maps Go.MapKept
def fC(s:List UInt8)(x:AV):Bool:=match x with|.str k=>k==s|_=>false
def aP:List AV->List UInt8->Option Nat|[],_=>none|e::es,s=>match fC s (e.cells.getD 0 .top)with|true=>some 0|false=>(aP es s).map (·+1)
def iO(xs:List AV)(s:List UInt8):Bool:=(aP xs s).isSome
def eP(z:AV)(xs:List AV)(s:List UInt8):AV:=match aP xs s with|some i=>(xs.getD i .top).cells.getD 1 .top|none=>z
def dT(xs:List AV)(s:List UInt8)(v:AV):List AV:=match aP xs s with|some i=>xs.set i (.agg [.str s,v])|none=>xs++[.agg [.str s,v]]
def dt(t:TypeId):TypeId:=1208925819614629241815040+4294967296*t
def RF:∀{xs:List AV}{s:List UInt8},(∀i,i<xs.length->fC s ((xs.getD i .top).cells.getD 0 .top)=false)->aP xs s=none|[],_,_=>rfl|e::es,s,h=>by have h0:=h 0 Ψ;simp only[List.getD_cons_zero]at h0;simp only[aP,h0];rw[RF λ i hi=>by simpa using h (i+1) (by simpa using hi)];rfl
def KG:∀{xs:List AV}{s:List UInt8}{j:Nat},j<xs.length->fC s ((xs.getD j .top).cells.getD 0 .top)->(∀i,i<j->fC s ((xs.getD i .top).cells.getD 0 .top)=false)->aP xs s=some j|[],_,_,h,_,_=>by simp at h|e::es,s,0,_,h1,_=>by simp only[List.getD_cons_zero]at h1;simp only[aP,h1]|e::es,s,j+1,h,h1,h2=>by have h0:=h2 0 Ω;simp only[List.getD_cons_zero]at h0;simp only[aP,h0];rw[KG (j:=j) (by simpa using h) (by simpa using h1) λ i hi=>by simpa using h2 (i+1) Ω];rfl
variable {t:ByteArray}
def KJ{s:ByteArray}(h:s.data.toList=t.data.toList):s=t:=by cases s;cases t;simp only at h;congr 1;exact Array.ext' h
structure mr (w:World) (A:Nat->Prop) (M:Id->Option MB) (m:MB) (xs:List AV) (es:Array MapEntry) (clock:Nat):Prop where
 heap:lq w m.b es clock
 size:es.size=xs.length
 keys:∀(k:Nat)(x:MapEntry),es[k]?=some x->∃t:ByteArray,x.key=.string t/\(xs.getD k .top).cells.getD 0 .top=.str t.data.toList/\t.size<=maxLen
 vals:∀(k:Nat)(x:MapEntry),es[k]?=some x->aD w A M x.val ((xs.getD k .top).cells.getD 1 .top)
 apart:∀(k l:Nat)(x y:MapEntry),es[k]?=some x->es[l]?=some y->x.key=y.key->k=l
variable {M:Id->Option MB}{es:Array MapEntry}{m:MB}{xs:List AV}
def mr.miss{w:World}{A:Nat->Prop}{clock:Nat}(h:mr w A M m xs es clock)(q:∀x∈es.toList,x.key≠.string t):aP xs t.data.toList=none:=RF λ i hi=>by(have hi':i<es.size:=by rw[h.size];exact hi);obtain⟨t',h1,h2,_⟩:=h.keys i es[i] (by simp[hi']);rw[h2];show (t'.data.toList==t.data.toList)=false;rw[beq_eq_false_iff_ne];intro e;exact q es[i] Ψ (by rw[h1,KJ e])
variable {j:Nat}
def mr.hit{w:World}{A:Nat->Prop}{clock:Nat}(h:mr w A M m xs es clock){e0:MapEntry}(hj:es.toList[j]?=some e0)(hk:e0.key=.string t):aP xs t.data.toList=some j/\j<xs.length:=by
 have q:es[j]?=some e0:=by simpa using hj
 have hj':j<es.size:=by rcases zJ j es.size with h|h;exact h;simp[Array.getElem?_eq_none h]at q
 have J:j<xs.length:=by rw[<-h.size];exact hj'
 refine⟨KG J ?_ λ i hi=>?_,J⟩;obtain⟨t',h1,h2,_⟩:=h.keys j e0 q;rw[h2];rw[hk]at h1;injection h1 with h1;rw[h1];show (t'.data.toList==t'.data.toList)=true;exact beq_self_eq_true _;have hi':i<es.size:=Ω
 obtain⟨t',h1,h2,_⟩:=h.keys i es[i] (by simp[hi']);rw[h2];show (t'.data.toList==t.data.toList)=false;rw[beq_eq_false_iff_ne];intro e;have:=h.apart i j es[i] e0 (by simp[hi']) q (by rw[h1,hk,KJ e]);omega
def Uk{sz k:Nat}(q:∀x,x∈xs->x.okElem sz)(hk:k<xs.length)(hj:j<sz):((xs.getD k .top).cells.getD j .top).one:=by have h:=q _ (jA hk);have h1:=lg h;have h2:=jM h;rw[zI]at h1;exact h1 _ (jA Ω)
def xzi{w:World}{A:Nat->Prop}{x:AV}(h:aD w A M (.string t) x)(hx:x.one)(J:∀id ver i j,x≠.own id ver i j)(q:∀id ver i j,x≠.osl id ver i j):x=.str t.data.toList:=by generalize hv:Value.string t=v at h;cases h<;>first|(cases hv;rfl)|(cases hv;done)|(simp[AV.one]at hx;done)|(exact absurd rfl (J _ _ _ _))|(exact absurd rfl (q _ _ _ _))
def BoxAt.mapAt{w:World}{A:Nat->Prop}{B:Nat}{id:Id}{bx:aC}(h:BoxAt w A M B id m bx)(hm:dD bx.ty)(h0:de bx.ty 0=false)(h1:de bx.ty 1=false)(hs:bx.sz=2)(hp:bx.pm)(hcap:0<m.cap):∃es clock,mr w A er m bx.xs es clock/\m.cap=maxLen:=by
 obtain⟨c,c1,c2,c3⟩:=h.cells hcap;have V:dD m.ty:=by rw[<-h.ty];unfold gA;split;rw[hm];exact hm;exact hm
 unfold bX at c1;rw[V]at c1;obtain⟨es,clock,d1,d2,d3,d4,d5,d6⟩:=c1;have hsz:m.sz=2:=by rw[<-h.sz];exact hs
 have J:∀(k:Nat)(x:MapEntry),es[k]?=some x->k<bx.xs.length:=λ k x hx=>by rw[<-d2];rcases zJ k es.size with h|h;exact h;simp[Array.getElem?_eq_none h]at hx
 have q:∀(k j:Nat),k<bx.xs.length->j<2->de bx.ty j=false->aD w A er (c.getD (k*m.sz+j) undef) ((bx.xs.getD k .top).cells.getD j .top):=λ k j hk hj Q=>by have h4:=c3 k j hk (by rw[hsz];exact hj);unfold MV fy at h4;simp only[Q,hp]at h4;exact h4
 refine⟨es,clock,⟨d1,d2,λ k x hx=>?_,λ k x hx=>?_,d6⟩,d3⟩;obtain⟨t,ht,O⟩:=d5 k x hx;have hk:=J k x hx;have h4:=q k 0 hk Ω h0;rw[Nat.add_zero,(d4 k x hx).1,ht]at h4;exact⟨t,ht,xzi h4 (Uk h.ok hk (by rw[hsz];omega)) (λ id ver i j e=>by rw[e]at h4;obtain⟨_,hh,_⟩:=aD.own_inv h4;cases hh) (λ id ver i j e=>by rw[e]at h4;obtain⟨_,hh,_⟩:=aD.osl_inv h4;cases hh),O⟩;have h4:=q k 1 (J k x hx) Ω h1;rw[(d4 k x hx).2]at h4;exact h4
def bS(H:List aC)(n:Nat)(ver:Nat):Option aC:=match H[n]? with|some bx=>if bx.ver=ver/\dD bx.ty/\de bx.ty 0=false/\de bx.ty 1=false/\bx.sz=2/\bx.pm then some bx else none|none=>none
def wF(P:Program)(t e:TypeId):Option TypeId:=match P.underlying e with|some (.slice e2)=>(match bN P e2 with|some te=>(match Nat.beq te.sz 200 with|true=>some (dt t)|false=>some (1208925819614629174706176+4503599627370496*t+1048576*(2+64*(te.sz+64*e2))))|none=>none)|_=>some (dt t)
def iY(P:Program)(H:List aC)(t:TypeId):Option (AV×List aC):=match P.underlying t with|some (.map k e)=>(match P.underlying k,wF P t e with|some .string,some ty=>if dD ty/\bW ty then some (.own H.length 0 0 0,H++[⟨0,2,ty,[],false,true⟩])else none|_,_=>none)|_=>none
def dr(P:Program)(H:List aC)(t:TypeId)(m k:AV)(c:Bool):Option AV:=match m,k,P.underlying t with|.own (.b n) ver _ _,.str s,some (.map kt et)=>(match P.underlying kt,bN P et,bS H n ver with|some .string,some te,some bx=>(if s.length<=f7 then some (match c with|true=>.tuple [eP te.zero bx.xs s,.bool (iO bx.xs s)]|false=>eP te.zero bx.xs s) else none)|_,_,_=>none)|_,_,_=>none
def dP(xs:List AV)(s:List UInt8):List AV:=match aP xs s with|some i=>((xs.getD i .top).cells.getD 1 .top).toList|none=>[]
def bH(P:Program)(H:List aC)(t:TypeId)(m k:AV)(c:Bool):Option AV:=match m,k,P.underlying t with|.own (.b n) ver _ _,.str s,some (.map kt et)=>(match P.underlying kt,P.underlying et,bN P et,bS H n ver with|some .string,some (.slice e2),some te,some bx=>(match te.zero,bN P e2 with|.nils,some te2=>(if s.length<=f7/\(!iO bx.xs s || jW te2.sz (eP .nils bx.xs s)) then some (match c with|true=>.tuple [.list te2.sz (dP bx.xs s),.bool (iO bx.xs s)]|false=>.list te2.sz (dP bx.xs s)) else none)|_,_=>none)|_,_,_,_=>none)|_,_,_=>none
variable {P:Program}
theorem xuE{H:List aC}{t:TypeId}{m k r:AV}{c:Bool}(h:bH P H t m k c=some r):∃n ver i j bx,m=.own (.b n) ver i j/\bS H n ver=some bx:=by unfold bH at *;grind
def fz(P:Program)(H:List aC)(t:TypeId)(m k v:AV):Option (List aC):=match m,k,P.underlying t with|.own (.b n) ver _ _,.str s,some (.map kt _)=>(match P.underlying kt,bS H n ver with|some .string,some bx=>if bx.frz=false/\v.one/\v.pure/\bx.xs.length<f7/\s.length<=f7 then some (H.set n ⟨ver,2,bx.ty,dT bx.xs s v,false,true⟩)else none|_,_=>none)|_,_,_=>none
section
variable{P:Program}{w:World}{A:Nat->Prop}{M:Id->Option MB}{B:Nat}{H:List aC}
variable {n:Nat}
theorem FF{ver:Nat}{bx:aC}(h:bS H n ver=some bx):H[n]?=some bx/\bx.ver=ver/\dD bx.ty/\de bx.ty 0=false/\de bx.ty 1=false/\bx.sz=2/\bx.pm:=by grind [bS]
def V1(hR:HR w A M B H){v:Value}{ver i j:Nat}{bx:aC}(h:aD w A M v (.own (.b n) ver i j))(hb:bS H n ver=some bx):∃m,M (.b n)=some m/\BoxAt w A M B (.b n) m bx/\v=.map (some m.b)/\0<m.cap:=by(obtain⟨Q,O,q,_⟩:=FF hb;obtain⟨m,hm,hv,h1,he⟩:=aD.own_inv h;obtain⟨bx',h2,h3⟩:=hR.box _ m hm;rw[iQ,Q]at h2;cases h2;refine⟨m,hm,h3,?_⟩;have J:dD m.ty:=by rw[<-h3.ty];unfold gA;split;rw[q];exact q;exact q);have h0:=he (by rw[<-O,h3.ver]);unfold fE at h0;rw[J]at h0;cases hc:m.cap with|zero=>rw[hc]at h0;simp only at h0;rw[h0]at h1;cases h1|succ k=>rw[hc]at h0;exact⟨h0,Nat.succ_pos k⟩
end
def SX{s:List UInt8}{v:AV}(h:v.one):(AV.agg [.str s,v]).okElem 2:=by show (true&&(true&&(v.one&&true)))=true;rw[h];rfl
def vm{k:TypeId}(hk:P.underlying k=some .string)(ht:t.size<=maxLen):keyOf P k (.string t)=some (.string t.data.toList):=by simp[keyOf,hk,mapKey,ht]
def vK(h:t.data.toList.length<=f7):t.size<=maxLen:=by rw[CE];unfold f7 at h;unfold maxLen;omega
section
variable{P:Program}{w:World}{A:Nat->Prop}{M:Id->Option MB}{B:Nat}{H:List aC}
variable {c:Bool}{ok om:Operand}{xk xm:AV}{ρc:Operand->Value}
def U4(hR:HR w A M B H){t:TypeId}{r:AV}(hm:aD w A M (ρc om) xm)(hk:aD w A M (ρc ok) xk)(h:dr P H t xm xk c=some r):∃v,(Instr.lookup t (ρc om) (ρc ok) c).run P w=.ok v w/\aD w A M v r:=by
 unfold dr at h;split at h;case h_2=>simp at h
 rename_i n ver i j s kt et aa;split at h;case h_2=>simp at h
 rename_i te bx Q ad W;split at h;case isFalse=>simp at h
 rename_i ab;simp only[z6]at h;obtain⟨m,ao,af,ae,ag⟩:=V1 hR hm W;obtain⟨aq,ap,am,al,ah,ac,ak⟩:=FF W;obtain⟨es,clock,J,_⟩:=af.mapAt am al ah ac ak ag;obtain⟨t0,ai,Z⟩:=hk.str_inv;subst Z;have O:∀x∈es.toList,∃l,keyOf P kt x.key=some l:=λ x hx=>by obtain⟨k,V,rfl⟩:=zp.1 hx;simp only[Array.length_toList]at V;obtain⟨t',h1,_,h3⟩:=J.keys k es[k] (by simp[V]);exact⟨.string t'.data.toList,by simp only[Array.getElem_toList];rw[h1];exact vm Q h3⟩
 obtain⟨z,hz,aj⟩:=S9 ad w;have Y:aD w A M z te.zero:=by rw[aj];exact nX w A M z
 rw[ae,ai,<-h];rcases U5 c (Maps.string_keyed Q) aa hz J.heap O (kl:=.string t0.data.toList) (vm Q (vK ab))with⟨h1,h2⟩|⟨j0,e0,h1,h2,h3⟩;have q:=J.miss h2;refine⟨_,h1,?_⟩;cases c;simpa[eP,q]using Y;simp only[eP,iO,q,if_true,Option.isSome];exact .tuple #[z,.bool false] _ rfl λ i hi=>by rcases i with _|_|i;exact Y;exact .bool false;simp at hi;omega
 obtain⟨q,an⟩:=J.hit h1 h2;have hv:=(J.vals j0 e0 (by simpa using h1)).lift M;refine⟨_,h3,?_⟩;cases c;simpa[eP,q]using hv;simp only[eP,iO,q,if_true,Option.isSome];exact .tuple #[e0.val,.bool true] _ rfl λ i hi=>by rcases i with _|_|i;exact hv;exact .bool true;simp at hi;omega
variable {o:Oper}
def xFH(hR:HR w A M B H){t:TypeId}{r:AV}(ho:o.op=.lookup t om ok c)(hm:aD w A M (ρc om) xm)(hk:aD w A M (ρc ok) xk)(h:dr P H t xm xk c=some r):Writes P o ρc w A M B r H:=by obtain⟨v,h1,h2⟩:=U4 hR hm hk h;exact⟨.value v,w,A,M,v,by simp only[execOp,ho,Sem.run_bind,h1,Result.andThen_ok,Sem.run_pure],.inl rfl,Below.refl _ _,aR.refl M,λ _ _=>Iff.rfl,λ _ _ _=>rfl,⟨λ _ _ _=>rfl,λ id m' h h0=>.inl ⟨id,m',h,h0,rfl⟩⟩,hR,h2⟩
def Ue(hR:HR w A M B H){t:TypeId}{r:AV}(hm:aD w A M (ρc om) xm)(hk:aD w A M (ρc ok) xk)(h:bH P H t xm xk c=some r):
  ∃v,(Instr.lookup t (ρc om) (ρc ok) c).run P w=.ok v w/\aD w A M v r:=by
 unfold bH at h;split at h
 case h_2=>simp at h
 rename_i n ver i j s kt et O;split at h
 case h_2=>simp at h
 rename_i e2 te bx Y aa W Q;split at h
 case h_2=>simp at h
 rename_i J hz Z;split at h
 case isFalse=>simp at h
 rename_i hc;obtain⟨V,q⟩:=hc;simp only[z6]at h;have hx:∀v,aD w A M v (eP .nils bx.xs s)->aD w A M v (.list J.sz (dP bx.xs s)):=λ v hv=>by
  unfold iO eP at q;unfold eP at hv;unfold dP;cases hi:aP bx.xs s with
  |none=>
   rw[hi]at hv;simp only at hv|-;generalize hn:AV.nils=x at hv;cases hv<;>first|(cases hn;done)|skip
   . exact .list0 none 0 J.sz
  |some i=>
   rw[hi]at hv q;simp only[zk,Bool.not_true,Bool.false_or]at hv q|-;obtain⟨ys,hy⟩:=vl q;rw[hy]at hv|-;exact hv
 have hM:∀ c,dr P H t (.own (.b n) ver i j) (.str s) c=some (match c with
   |true=>.tuple [eP te.zero bx.xs s,.bool (iO bx.xs s)]
   |false=>eP te.zero bx.xs s):=fun c=>by
  unfold dr;simp only[O,Y,W,Q];exact if_pos V
 obtain⟨v,h1,h2⟩:=U4 hR hm hk (hM c);refine⟨v,h1,?_⟩;rw[<-h];rw[hz]at h2;cases c with
 |false=>exact hx v h2
 |true=>
  simp only at h2|-;obtain⟨vs,rfl,hl,hr⟩:=h2.tuple_inv;refine .tuple vs _ (by simpa using hl) λ i hi=>?_
  rcases i with _|_|i
  . exact hx _ (hr 0 Ψ)
  . exact hr 1 Ψ
  . simp at hi;omega
def xDG(hR:HR w A M B H){t:TypeId}{r:AV}(ho:o.op=.lookup t om ok c)(hm:aD w A M (ρc om) xm)(hk:aD w A M (ρc ok) xk)(h:bH P H t xm xk c=some r):Writes P o ρc w A M B r H:=by obtain⟨v,h1,h2⟩:=Ue hR hm hk h;exact⟨.value v,w,A,M,v,by simp only[execOp,ho,Sem.run_bind,h1,Result.andThen_ok,Sem.run_pure],.inl rfl,Below.refl _ _,aR.refl M,λ _ _=>Iff.rfl,λ _ _ _=>rfl,⟨λ _ _ _=>rfl,λ id m' h h0=>.inl ⟨id,m',h,h0,rfl⟩⟩,hR,h2⟩
variable {s:List UInt8}{v:AV}{xs:List AV}
def Th:xs.length<=(dT xs s v).length/\(dT xs s v).length<=xs.length+1:=by unfold dT;split<;>simp
variable {H':List aC}
def xFO(hR:HR w A M B H){t:TypeId}{ov:Operand}{xv:AV}(ho:o.op=.mapUpdate t om ok ov\/o.op=.insert t om ok ov)(hm:aD w A M (ρc om) xm)(hk:aD w A M (ρc ok) xk)(hv:aD w A M (ρc ov) xv)(h:fz P H t xm xk xv=some H'):Writes P o ρc w A M B (.tuple []) H':=by
 unfold fz at h;split at h;case h_2=>simp at h
 rename_i n ver i j s kt et bc;split at h;case h_2=>simp at h
 rename_i bx an ay;split at h;case isFalse=>simp at h
 rename_i bg;obtain⟨a0,ai,ar,af,ag⟩:=bg;cases h;obtain⟨m,ah,O,bk,ab⟩:=V1 hR hm ay;obtain⟨a8,bf,ad,aq,ap,a5,bn⟩:=FF ay;obtain⟨es,clock,W,hcap⟩:=O.mapAt ad aq ap a5 bn ab;obtain⟨t0,be,bj⟩:=hk.str_inv;subst bj;have am:∀x∈es.toList,∃l,keyOf P kt x.key=some l:=λ x hx=>by obtain⟨k,au,rfl⟩:=zp.1 hx;simp only[Array.length_toList]at au;obtain⟨t',h1,_,h3⟩:=W.keys k es[k] (by simp[au]);exact⟨.string t'.data.toList,by simp only[Array.getElem_toList];rw[h1];exact vm an h3⟩
 have a7:aD w A er (ρc ov) xv:=hv.pure ar;have hsz:m.sz=2:=by rw[<-O.sz];exact a5
 have hsz':bx.xs.length=es.size:=W.size.symm;have hA:A m.b:=(O.guard ab).1 a0;have a6:∃J Q q,(Instr.mapUpdate t (ρc om) (ρc ok) (ρc ov)).run P w=.ok () (ChangeMaps.setBlock w m.b (.map Q q))/\oN Q J q/\J.size=(dT bx.xs t0.data.toList xv).length/\
   (∀(k:Nat)(x:MapEntry),J[k]?=some x->∃t:ByteArray,x.key=.string t/\((dT bx.xs t0.data.toList xv).getD k .top).cells.getD 0 .top=.str t.data.toList/\t.size<=maxLen)/\
   (∀(k:Nat)(x:MapEntry),J[k]?=some x->aD w A er x.val (((dT bx.xs t0.data.toList xv).getD k .top).cells.getD 1 .top))/\
   (∀(k l:Nat)(x y:MapEntry),J[k]?=some x->J[l]?=some y->x.key=y.key->k=l):=by
  rw[bk,be];rcases VW (val:=ρc ov) (Maps.string_keyed an) bc W.heap W.apart am (kl:=.string t0.data.toList) (vm an (vK ag))with⟨⟨Q,h1,hP⟩,h2⟩|⟨j0,e0,h1,h2,J,Q,h3,h4,hP⟩
  . have al:=W.miss h2;have hp:dT bx.xs t0.data.toList xv=bx.xs++[.agg [.str t0.data.toList,xv]]:=by unfold dT;rw[al]
    have V:∀(k:Nat)(x:MapEntry),(es.push ⟨.string t0,ρc ov,clock⟩)[k]?=some x->(k<es.size/\es[k]?=some x)\/(k=es.size/\x=⟨.string t0,ρc ov,clock⟩):=λ k x hx=>by
     rw[Array.getElem?_push]at hx;split at hx
     . rename_i e;simp only[z6]at hx;exact .inr ⟨e,hx.symm⟩
     . rcases zJ k es.size with h|h
       . exact .inl ⟨h,hx⟩
       . simp[Array.getElem?_eq_none h]at hx
    refine⟨_,_,_,h1,hP,by rw[hp];simp[hsz'],λ k x hx=>?_,λ k x hx=>?_,λ k l x y hx hy e=>?_⟩
    . rw[hp];rcases V k x hx with⟨g1,g2⟩|⟨rfl,rfl⟩
      . obtain⟨t',a1,a2,a3⟩:=W.keys k x g2;refine⟨t',a1,?_,a3⟩;rw[<-a2];simp[z7,zP,hsz',g1]
      . exact⟨t0,rfl,by simp[z7,<-hsz',AV.cells],vK ag⟩
    . rw[hp];rcases V k x hx with⟨g1,g2⟩|⟨rfl,rfl⟩
      . have:=W.vals k x g2;simpa[z7,zP,hsz',g1]using this
      . simpa[z7,<-hsz',AV.cells]using a7
    . rcases V k x hx with⟨g1,g2⟩|⟨rfl,rfl⟩<;>rcases V l y hy with⟨g3,g4⟩|⟨rfl,rfl⟩
      . exact W.apart k l x y g2 g4 e
      . exact absurd e (h2 x (List.mem_of_getElem? (by simpa using g2)))
      . exact absurd e.symm (h2 y (List.mem_of_getElem? (by simpa using g4)))
      . rfl
  . obtain⟨al,aw⟩:=W.hit h1 h2;have hp:dT bx.xs t0.data.toList xv=bx.xs.set j0 (.agg [.str t0.data.toList,xv]):=by unfold dT;rw[al]
    have V:∀(k:Nat)(x:MapEntry),J[k]?=some x->(k≠j0/\es[k]?=some x)\/(k=j0/\x={e0 with key:=.string t0,val:=ρc ov}):=λ k x hx=>by
     rw[<-Array.getElem?_toList,h3,List.getElem?_set]at hx;split at hx
     . rename_i e;subst e;split at hx
       . simp only[z6]at hx;exact .inr ⟨rfl,hx.symm⟩
       . simp at hx
     . rename_i e;exact .inl ⟨λ e'=>e e'.symm,by simpa using hx⟩
    refine⟨_,_,_,h4,hP,by rw[hp,<-Array.length_toList,h3];simp[hsz'],λ k x hx=>?_,λ k x hx=>?_,λ k l x y hx hy e=>?_⟩
    . rw[hp];rcases V k x hx with⟨g1,g2⟩|⟨rfl,rfl⟩
      . obtain⟨t',a1,a2,a3⟩:=W.keys k x g2;refine⟨t',a1,?_,a3⟩;rw[<-a2];simp[z7,List.getElem?_set,show ¬ j0=k from λ e=>g1 e.symm]
      . exact⟨t0,rfl,by simp[z7,aw,AV.cells],vK ag⟩
    . rw[hp];rcases V k x hx with⟨g1,g2⟩|⟨rfl,rfl⟩
      . have:=W.vals k x g2;simpa[z7,List.getElem?_set,show ¬ j0=k from λ e=>g1 e.symm]using this
      . simpa[z7,aw,AV.cells]using a7
    . have bb:es[j0]?=some e0:=by simpa using h1
      have ax:∀(k:Nat)(x:MapEntry),J[k]?=some x->∃y:MapEntry,es[k]?=some y/\y.key=x.key:=λ k x hx=>by
       rcases V k x hx with⟨g1,g2⟩|⟨rfl,rfl⟩
       . exact⟨x,g2,rfl⟩
       . exact⟨e0,bb,h2⟩
      obtain⟨x',a1,a2⟩:=ax k x hx;obtain⟨y',b1,b2⟩:=ax l y hy;exact W.apart k l x' y' a1 b1 (by rw[a2,b2,e])
 obtain⟨J,Q,q,r1,rP,r2,r3,r4,r5⟩:=a6;have bo:=Th (xs:=bx.xs) (s:=t0.data.toList) (v:=xv);have az:lq (ChangeMaps.setBlock w m.b (.map Q q)) m.b J q:=⟨Q,by simp[ChangeMaps.setBlock,O.lt ab],rP⟩;have aa:∀b,b≠m.b->(ChangeMaps.setBlock w m.b (.map Q q)).heap[b]?=w.heap[b]?:=λ b hb=>by simp[ChangeMaps.setBlock,Array.getElem?_setIfInBounds,Ne.symm hb]
 have ac:(ChangeMaps.setBlock w m.b (.map Q q)).heap.size=w.heap.size:=by simp[ChangeMaps.setBlock]
 have Z:∀b,b<w.heap.size->¬ A b->(ChangeMaps.setBlock w m.b (.map Q q)).heap[b]?=w.heap[b]?:=λ b _ hb=>aa b λ e=>hb (e▸hA);have aj:n<H.length:=j6 a8;have hR':HR (ChangeMaps.setBlock w m.b (.map Q q)) A M B (H.set n ⟨ver,2,bx.ty,dT bx.xs t0.data.toList xv,false,true⟩):=by refine hR.rebuild (λ k=>k=n) (λ k hk _=>zX (λ e=>hk e.symm)) (λ _ _=>rfl) (λ x m0 hx h0 c0=>⟨aa _ λ e=>hx ?_,λ h=>h⟩) Z (by rw[ac];exact zd _) (λ _ _ h=>h) (aR.refl M) (λ x m0 hx h0=>?_) (λ x m1 x' m2 _ h1 h2 c1 c2 he=>hR.inj x x' m1 m2 h1 h2 c1 c2 he) (λ b hb=>by rw[ac];exact hR.lt b hb);have:=hR.inj x (.b n) m0 m h0 ah c0 ab e;rw[this];rfl;cases x with|b k=>((have hx:k=n:=hx;subst hx;rw[ah]at h0;cases h0;have ba:dD m.ty:=by rw[<-O.ty];unfold gA;split;rw[ad];exact ad;exact ad);refine⟨⟨ver,2,bx.ty,dT bx.xs t0.data.toList xv,false,true⟩,by rw[iQ];exact zL aj,bf.symm.trans O.ver,hsz.symm,O.ty,O.capm,?_,λ y hy=>?_,O.low,λ h0=>by rw[ac];exact O.lt h0,λ h0=>?_,λ _=>⟨λ _=>hA,λ _=>rfl⟩⟩;show (dT bx.xs t0.data.toList xv).length<=m.cap;rw[hcap];unfold f7 at af;unfold maxLen;omega;rw[hsz];have Y:(AV.agg [.str t0.data.toList,xv]).okElem 2:=SX ai;have hy:y∈dT bx.xs t0.data.toList xv:=hy;unfold dT at hy;split at hy;rcases List.mem_or_eq_of_mem_set hy with hy|rfl;rw[<-hsz];exact O.ok y hy;exact Y;rcases zG.1 hy with hy|hy;rw[<-hsz];exact O.ok y hy;simp only[zv]at hy;subst hy;exact Y;(let c':Array Value:=Array.ofFn (n:=maxLen*2) λ k=>match J[k.val / 2]? with|some x=>if k.val % 2=0 then x.key else x.val|none=>undef);(have bp:J.size<=maxLen:=by rw[r2];unfold f7 at af;unfold maxLen;omega);(have a9:∀(k:Nat)(x:MapEntry),J[k]?=some x->k<J.size:=λ k x hx=>by rcases zJ k J.size with h|h;exact h;simp[Array.getElem?_eq_none h]at hx);(have hc':∀(k:Nat)(x:MapEntry),J[k]?=some x->c'.getD (k*m.sz) undef=x.key/\c'.getD (k*m.sz+1) undef=x.val:=λ k x hx=>by(have hk:=a9 k x hx;rw[hsz];have e1:k*2<maxLen*2:=Ω);(have e2:k*2+1<maxLen*2:=Ω);constructor;rw[zu,Array.getElem?_ofFn,dif_pos e1];simp only[zh,Nat.mul_div_cancel _ (by omega:0<2),hx,Nat.mul_mod_left,if_true];(rw[zu,Array.getElem?_ofFn,dif_pos e2];have d1:(k*2+1) / 2=k:=Ω);(have d2:¬ (k*2+1) % 2=0:=Ω);simp only[zh,d1,hx,d2,if_false]);refine⟨c',?_,by rw[hcap,hsz];exact Array.size_ofFn,λ i j hi hj=>?_⟩;unfold bX;rw[ba];exact⟨J,q,az,r2,hcap,hc',λ k x hx=>by obtain⟨t',a1,_,a3⟩:=r3 k x hx;exact⟨t',a1,a3⟩,r5⟩;(have hi':i<J.size:=by rw[r2];exact hi);obtain⟨x,hx⟩:∃x,J[i]?=some x:=⟨J[i],by simp[hi']⟩;(rw[hsz]at hj;have ag:∀j,j<2->de bx.ty j=false:=λ j hj=>by rcases j with _|_|j;exact aq;exact ap;omega);unfold MV fy;simp only[ag j hj];show aD _ A er _ _;have ao:∀{v:Value}{x:AV},aD w A er v x->aD (ChangeMaps.setBlock w m.b (.map Q q)) A er v x:=λ h=>h.mono Z (by rw[ac];exact zd _) (λ _ _ h=>h) (aR.refl _);rcases j with _|_|j;rw[Nat.add_zero,(hc' i x hx).1];obtain⟨t',a1,a2,_⟩:=r3 i x hx;show aD _ A er _ (((dT bx.xs t0.data.toList xv).getD i .top).cells.getD 0 .top);rw[a1,a2];exact .str t';rw[(hc' i x hx).2];exact ao (r4 i x hx);omega)|r k i' j'=>(have hx:k=n:=hx;subst hx;obtain⟨rb,k1,k2⟩:=hR.box _ m0 h0;have a4:bW bx.ty:=by cases hc:bW bx.ty with|true=>rfl|false=>rw[kG hc]at ad;cases ad);(obtain⟨e2,e3,e4,e5⟩:=pP a8 a4 k1;have bq:2<=j':=by rcases j' with _|_|j';rw[aq]at e2;cases e2;rw[ap]at e2;cases e2;omega);(have ak:∀(xs:List AV),(∀x,x∈xs->x.okElem 2)->(xs.getD i' .top).cells.getD j' .top=.top:=λ xs bi=>by rcases zJ i' xs.length with h|h;have:=jM (bi _ (jA h));rw[z7 (l:=(xs.getD i' .top).cells),zz Ω];rfl;(have:xs.getD i' .top=.top:=by rw[z7,zz h];rfl);rw[this,z7,zz (by simp[AV.cells];omega)];rfl);(have ae:∀x,x∈bx.xs->x.okElem 2:=λ x hx=>by rw[<-hsz];exact O.ok x hx);refine⟨rb,?_,k2.mono (λ bh=>aa _ λ e=>?_) Z (by rw[ac];exact zd _) (λ _ _ h=>h) k2.guard (aR.refl M)⟩;rw[oH (zL aj) (by exact a4) (by exact e2) rfl (by show i'<(dT bx.xs t0.data.toList xv).length;omega)];(rw[e5,ak bx.xs ae];have Y:((dT bx.xs t0.data.toList xv).getD i' .top).cells.getD j' .top=.top:=ak _ λ y hy=>by have Y:(AV.agg [.str t0.data.toList,xv]).okElem 2:=SX ai;unfold dT at hy;split at hy;rcases List.mem_or_eq_of_mem_set hy with hy|rfl;exact ae y hy;exact Y;rcases zG.1 hy with hy|hy;exact ae y hy;simp only[zv]at hy;subst hy;exact Y);(have e6:iT ⟨ver,2,bx.ty,dT bx.xs t0.data.toList xv,false,true⟩ .top=iT bx .top:=by simp[iT,a0]);exact congrArg some ((congrArg (iT ⟨ver,2,bx.ty,dT bx.xs t0.data.toList xv,false,true⟩) Y).trans e6);have:=hR.inj _ (.b k) m0 m h0 ah bh ab e;cases this
 refine⟨.skip,ChangeMaps.setBlock w m.b (.map Q q),A,M,undef,?_,.inr ⟨rfl,rfl⟩,⟨rfl,rfl,rfl,by rw[ac];exact zd _,λ k hk=>aa k λ e=>by have:=O.low ab;omega⟩,aR.refl M,λ _ _=>Iff.rfl,Z,⟨λ b _ hb=>aa b λ e=>hb (.b n) m ah ab e.symm,λ id m' h h0=>.inl ⟨id,m',h,h0,rfl⟩⟩,hR',.tuple #[] [] rfl Ψ⟩;rcases ho with ho|ho<;>simp only[execOp,ho,Sem.run_bind,r1,Result.andThen_ok,Sem.run_pure]
def dI(H:List aC)(n:Nat)(ver:Nat):Option aC:=match H[n]? with|some bx=>if bx.ver=ver/\dD bx.ty/\de bx.ty 0=false/\de bx.ty 1/\bx.sz=2/\bx.pm then some bx else none|none=>none
theorem Fv{H:List aC}{n ver:Nat}{bx:aC}(h:dI H n ver=some bx):H[n]?=some bx/\bx.ver=ver/\dD bx.ty/\de bx.ty 0=false/\de bx.ty 1/\bx.sz=2/\bx.pm:=by grind [dI]
structure j7 (w:World) (m:MB) (xs:List AV) (es:Array MapEntry) (clock:Nat):Prop where
 heap:lq w m.b es clock
 size:es.size=xs.length
 keys:∀(k:Nat)(x:MapEntry),es[k]?=some x->∃t:ByteArray,x.key=.string t/\(xs.getD k .top).cells.getD 0 .top=.str t.data.toList/\t.size<=maxLen
 apart:∀(k l:Nat)(x y:MapEntry),es[k]?=some x->es[l]?=some y->x.key=y.key->k=l
variable {es:Array MapEntry}{m:MB}{t:ByteArray}
def j7.miss{w:World}{clock:Nat}(h:j7 w m xs es clock)(q:∀x∈es.toList,x.key≠.string t):aP xs t.data.toList=none:=RF λ i hi=>by(have hi':i<es.size:=by rw[h.size];exact hi);obtain⟨t',h1,h2,_⟩:=h.keys i es[i] (by simp[hi']);rw[h2];show (t'.data.toList==t.data.toList)=false;rw[beq_eq_false_iff_ne];intro e;exact q es[i] Ψ (by rw[h1,KJ e])
def j7.hit{w:World}{clock:Nat}(h:j7 w m xs es clock){j:Nat}{e0:MapEntry}(hj:es.toList[j]?=some e0)(hk:e0.key=.string t):aP xs t.data.toList=some j/\j<xs.length:=by
 have q:es[j]?=some e0:=by simpa using hj
 have hj':j<es.size:=by rcases zJ j es.size with h|h;exact h;simp[Array.getElem?_eq_none h]at q
 have J:j<xs.length:=by rw[<-h.size];exact hj'
 refine⟨KG J ?_ λ i hi=>?_,J⟩;obtain⟨t',h1,h2,_⟩:=h.keys j e0 q;rw[h2];rw[hk]at h1;injection h1 with h1;rw[h1];show (t'.data.toList==t'.data.toList)=true;exact beq_self_eq_true _;have hi':i<es.size:=Ω
 obtain⟨t',h1,h2,_⟩:=h.keys i es[i] (by simp[hi']);rw[h2];show (t'.data.toList==t.data.toList)=false;rw[beq_eq_false_iff_ne];intro e;have:=h.apart i j es[i] e0 (by simp[hi']) q (by rw[h1,hk,KJ e]);omega
def KE{t:TypeId}(h:dD t):dD (gA t):=by unfold gA;split;rw[h];exact h;exact h
def BoxAt.mapKs{w:World}{A:Nat->Prop}{M:Id->Option MB}{B:Nat}{id:Id}{bx:aC}(h:BoxAt w A M B id m bx)(hm:dD bx.ty)(h0:de bx.ty 0=false)(hs:bx.sz=2)(hp:bx.pm)(hcap:0<m.cap):∃es clock,j7 w m bx.xs es clock/\m.cap=maxLen/\∀(k:Nat)(x:MapEntry),es[k]?=some x->aD w A (MV M bx 1) x.val (fy id.base k 1 bx.ty ((bx.xs.getD k .top).cells.getD 1 .top)):=by
 obtain⟨c,c1,c2,c3⟩:=h.cells hcap;have O:dD m.ty:=by rw[<-h.ty];exact KE hm
 unfold bX at c1;rw[O]at c1;obtain⟨es,clock,d1,d2,d3,d4,d5,d6⟩:=c1;have hsz:m.sz=2:=by rw[<-h.sz];exact hs
 have q:∀(k:Nat)(x:MapEntry),es[k]?=some x->k<bx.xs.length:=λ k x hx=>by rw[<-d2];rcases zJ k es.size with h|h;exact h;simp[Array.getElem?_eq_none h]at hx
 refine⟨es,clock,⟨d1,d2,λ k x hx=>?_,d6⟩,d3,λ k x hx=>?_⟩;obtain⟨t,ht,J⟩:=d5 k x hx;have hk:=q k x hx;have h4:=c3 k 0 hk (by rw[hsz];omega);unfold MV fy at h4;simp only[h0,hp]at h4;rw[Nat.add_zero,(d4 k x hx).1,ht]at h4;exact⟨t,ht,xzi h4 (Uk h.ok hk (by rw[hsz];omega)) (λ id ver i j e=>by rw[e]at h4;obtain⟨_,hh,_⟩:=aD.own_inv h4;cases hh) (λ id ver i j e=>by rw[e]at h4;obtain⟨_,hh,_⟩:=aD.osl_inv h4;cases hh),J⟩;have h4:=c3 k 1 (q k x hx) (by rw[hsz];omega);rw[(d4 k x hx).2]at h4;exact h4
def cD(P:Program)(H:List aC)(t:TypeId)(m k:AV)(c:Bool):Option AV:=match m,k,P.underlying t with|.own (.b n) ver _ _,.str s,some (.map kt et)=>(match P.underlying kt,bN P et,dI H n ver with|some .string,some te,some bx=>(if s.length<=f7 then some (match aP bx.xs s with|some i=>(match c with|true=>.tuple [pC n i 1 ((bx.xs.getD i .top).cells.getD 1 .top),.bool true]|false=>pC n i 1 ((bx.xs.getD i .top).cells.getD 1 .top))|none=>match c with|true=>.tuple [te.zero,.bool false]|false=>te.zero) else none)|_,_,_=>none)|_,_,_=>none
def wE{P:Program}{H:List aC}{t:TypeId}{m k r:AV}(h:cD P H t m k c=some r):bH P H t m k c=none:=by cases hl:bH P H t m k c with|none=>rfl|some r'=>exfalso;obtain⟨n,ver,i,j,bx,rfl,hb⟩:=xuE hl;obtain⟨b1,b2,b3,b4,b5,_⟩:=FF hb;unfold cD at h;split at h;(case h_2=>simp at h);rename AV.own (Id.b n) ver i j=_=>heq;cases heq;split at h;(case h_2=>simp at h);rename_i q;obtain⟨c1,c2,c3,c4,c5,_⟩:=Fv q;rw[b1]at c1;cases c1;rw[b5]at c5;cases c5
def gN(xs:List AV)(s:List UInt8)(n:Nat):Bool:=match aP xs s with|some i=>(match gc ((xs.getD i .top).cells.getD 1 .top)with|some l0=>decide (l0<n)|none=>false)|none=>true
def iZ(P:Program)(H:List aC)(t:TypeId)(m k v:AV):Option (List aC):=match m,k,v,P.underlying t with|.own (.b n) ver _ _,.str s,.osl (.b id) ver2 off len,some (.map kt _)=>(match P.underlying kt,dI H n ver,dW H (.b id) ver2 with|some .string,some bx,some b2=>if bx.frz=false/\b2.frz=false/\b2.pm/\bW b2.ty=false/\b2.ty=bM bx.ty/\off=0/\len=b2.xs.length/\bx.xs.length<f7/\s.length<=f7/\gN bx.xs s len then some ((H.set id ⟨ver2+1,b2.sz,b2.ty,[],false,true⟩).set n ⟨ver,2,bx.ty,dT bx.xs s (.list b2.sz b2.xs),false,true⟩)else none|_,_,_=>none)|_,_,_,_=>none
def vF:∀{xs:List AV}{s:List UInt8}{i:Nat},aP xs s=some i->i<xs.length|[],s,i,h=>by simp[aP]at h|e::es,s,i,h=>by simp only[aP]at h;split at h;cases h;simp;cases hm:aP es s with|none=>rw[hm]at h;simp at h|some j=>rw[hm]at h;simp only[Option.map_some,z6]at h;have:=vF hm;subst h;simp;omega
def aN(xs:List AV)(s:List UInt8):Nat:=match aP xs s with|some i=>i|none=>xs.length
def FT(k:Nat):(dT xs s v).getD k .top=if k=aN xs s then .agg [.str s,v]else xs.getD k .top:=by unfold dT aN;cases h:aP xs s with|some i=>have:=vF h;by_cases hk:k=i;subst hk;simp[z7,this];simp[z7,List.getElem?_set,hk,show ¬ i=k from λ e=>hk e.symm]|none=>by_cases hk:k=xs.length;subst hk;simp[z7];simp only[hk,if_false];rcases zJ k xs.length with g|g;simp[z7,zP,g];rw[z7,z7,zz (by simp;omega),zz g]
def xJf:aN xs s<(dT xs s v).length:=by unfold dT aN;cases h:aP xs s with|some i=>have:=vF h;simpa using this|none=>simp
section
variable{P:Program}{w:World}{A:Nat->Prop}{M:Id->Option MB}{B:Nat}{H:List aC}
def Vd(hR:HR w A M B H){v:Value}{n ver i j:Nat}{bx:aC}(h:aD w A M v (.own (.b n) ver i j))(hb:dI H n ver=some bx):∃m,M (.b n)=some m/\BoxAt w A M B (.b n) m bx/\v=.map (some m.b)/\0<m.cap:=by(obtain⟨O,J,Q,_⟩:=Fv hb;obtain⟨m,hm,hv,h1,he⟩:=aD.own_inv h;obtain⟨bx',h2,h3⟩:=hR.box _ m hm;rw[iQ,O]at h2;cases h2;refine⟨m,hm,h3,?_⟩;have q:dD m.ty:=by rw[<-h3.ty];exact KE Q);have h0:=he (by rw[<-J,h3.ver]);unfold fE at h0;rw[q]at h0;cases hc:m.cap with|zero=>rw[hc]at h0;simp only at h0;rw[h0]at h1;cases h1|succ k=>rw[hc]at h0;exact⟨h0,Nat.succ_pos k⟩
variable {c:Bool}{ok om:Operand}{ρc:Operand->Value}
def Uf(hR:HR w A M B H){t:TypeId}{xm xk r:AV}(hm:aD w A M (ρc om) xm)(hk:aD w A M (ρc ok) xk)(h:cD P H t xm xk c=some r):∃v,(Instr.lookup t (ρc om) (ρc ok) c).run P w=.ok v w/\aD w A M v r:=by
 unfold cD at h;split at h;case h_2=>simp at h
 rename_i n ver i j s kt et ab;split at h;case h_2=>simp at h
 rename_i te bx V ae Y;split at h;case isFalse=>simp at h
 rename_i ac;simp only[z6]at h;obtain⟨m,ap,ag,af,ah⟩:=Vd hR hm Y;obtain⟨ar,aq,an,am,ai,ad,al⟩:=Fv Y;obtain⟨es,clock,q,_,O⟩:=ag.mapKs an am ad al ah;obtain⟨t0,aj,aa⟩:=hk.str_inv;subst aa;have Q:∀x∈es.toList,∃l,keyOf P kt x.key=some l:=λ x hx=>by obtain⟨k,W,rfl⟩:=zp.1 hx;simp only[Array.length_toList]at W;obtain⟨t',h1,_,h3⟩:=q.keys k es[k] (by simp[W]);exact⟨.string t'.data.toList,by simp only[Array.getElem_toList];rw[h1];exact vm V h3⟩
 obtain⟨z,hz,ak⟩:=S9 ae w;have Z:aD w A M z te.zero:=by rw[ak];exact nX w A M z
 rw[af,aj,<-h];rcases U5 c (Maps.string_keyed V) ab hz q.heap Q (kl:=.string t0.data.toList) (vm V (vK ac))with⟨h1,h2⟩|⟨j0,e0,h1,h2,h3⟩;have J:=q.miss h2;refine⟨_,h1,?_⟩;rw[J];cases c;simpa using Z;simp only[if_true];exact .tuple #[z,.bool false] _ rfl λ i hi=>by rcases i with _|_|i;exact Z;exact .bool false;simp at hi;omega
 obtain⟨J,ao⟩:=q.hit h1 h2;have hv:=(O j0 e0 (by simpa using h1)).unmv;unfold fy at hv;rw[ai]at hv;change aD w A M e0.val (pC n j0 1 ((bx.xs.getD j0 .top).cells.getD 1 .top))at hv;refine⟨_,h3,?_⟩;rw[J];cases c;simpa using hv;simp only[if_true];exact .tuple #[e0.val,.bool true] _ rfl λ i hi=>by rcases i with _|_|i;exact hv;exact .bool true;simp at hi;omega
def xDH(hR:HR w A M B H){o:Oper}{t:TypeId}{xm xk r:AV}(ho:o.op=.lookup t om ok c)(hm:aD w A M (ρc om) xm)(hk:aD w A M (ρc ok) xk)(h:cD P H t xm xk c=some r):Writes P o ρc w A M B r H:=by obtain⟨v,h1,h2⟩:=Uf hR hm hk h;exact⟨.value v,w,A,M,v,by simp only[execOp,ho,Sem.run_bind,h1,Result.andThen_ok,Sem.run_pure],.inl rfl,Below.refl _ _,aR.refl M,λ _ _=>Iff.rfl,λ _ _ _=>rfl,⟨λ _ _ _=>rfl,λ id m' h h0=>.inl ⟨id,m',h,h0,rfl⟩⟩,hR,h2⟩
def j7.put{m:MB}{xs:List AV}{es:Array MapEntry}{clock:Nat}(O:j7 w m xs es clock){t kt et:TypeId}(ad:P.underlying t=some (.map kt et))(aa:P.underlying kt=some .string){t0:ByteArray}(Y:t0.data.toList.length<=f7)(val:Value)(v:AV):∃Q W clock',(Instr.mapUpdate t (.map (some m.b)) (.string t0) val).run P w=.ok () (ChangeMaps.setBlock w m.b (.map W clock'))/\oN W Q clock'/\Q.size=(dT xs t0.data.toList v).length/\(∀(k:Nat)(x:MapEntry),Q[k]?=some x->∃t:ByteArray,x.key=.string t/\((dT xs t0.data.toList v).getD k .top).cells.getD 0 .top=.str t.data.toList/\t.size<=maxLen)/\(∀(k l:Nat)(x y:MapEntry),Q[k]?=some x->Q[l]?=some y->x.key=y.key->k=l)/\(∀(k:Nat)(x:MapEntry),Q[k]?=some x->(k≠aN xs t0.data.toList/\es[k]?=some x)\/(k=aN xs t0.data.toList/\x.val=val)):=by
 have hsz':xs.length=es.size:=O.size.symm;have Z:∀x∈es.toList,∃l,keyOf P kt x.key=some l:=λ x hx=>by obtain⟨k,ab,rfl⟩:=zp.1 hx;simp only[Array.length_toList]at ab;obtain⟨t',h1,_,h3⟩:=O.keys k es[k] (by simp[ab]);exact⟨.string t'.data.toList,by simp only[Array.getElem_toList];rw[h1];exact vm aa h3⟩
 rcases VW (val:=val) (Maps.string_keyed aa) ad O.heap O.apart Z (kl:=.string t0.data.toList) (vm aa (vK Y))with⟨⟨W,h1,hP⟩,h2⟩|⟨j0,e0,h1,h2,Q,W,h3,h4,hP⟩;have V:=O.miss h2;have J:aN xs t0.data.toList=xs.length:=by unfold aN;rw[V]
 have hp:(dT xs t0.data.toList v).length=xs.length+1:=by unfold dT;rw[V];simp
 have q:∀(k:Nat)(x:MapEntry),(es.push ⟨.string t0,val,clock⟩)[k]?=some x->(k<es.size/\es[k]?=some x)\/(k=es.size/\x=⟨.string t0,val,clock⟩):=λ k x hx=>by rw[Array.getElem?_push]at hx;split at hx;rename_i e;simp only[z6]at hx;exact .inr ⟨e,hx.symm⟩;rcases zJ k es.size with h|h;exact .inl ⟨h,hx⟩;simp[Array.getElem?_eq_none h]at hx
 refine⟨_,_,_,h1,hP,by rw[hp];simp[hsz'],λ k x hx=>?_,λ k l x y hx hy e=>?_,λ k x hx=>?_⟩;rw[FT,J];rcases q k x hx with⟨g1,g2⟩|⟨rfl,rfl⟩;obtain⟨t',a1,a2,a3⟩:=O.keys k x g2;exact⟨t',a1,by rw[if_neg Ω];exact a2,a3⟩;exact⟨t0,rfl,by rw[if_pos hsz'.symm];rfl,vK Y⟩;rcases q k x hx with⟨g1,g2⟩|⟨rfl,rfl⟩<;>rcases q l y hy with⟨g3,g4⟩|⟨rfl,rfl⟩;exact O.apart k l x y g2 g4 e;exact absurd e (h2 x (List.mem_of_getElem? (by simpa using g2)));exact absurd e.symm (h2 y (List.mem_of_getElem? (by simpa using g4)));rfl;rcases q k x hx with⟨g1,g2⟩|⟨rfl,rfl⟩;exact .inl ⟨by rw[J];omega,g2⟩;exact .inr ⟨by rw[J];exact hsz'.symm,rfl⟩;obtain⟨V,af⟩:=O.hit h1 h2;have J:aN xs t0.data.toList=j0:=by unfold aN;rw[V]
 have hp:(dT xs t0.data.toList v).length=xs.length:=by unfold dT;rw[V];simp
 have q:∀(k:Nat)(x:MapEntry),Q[k]?=some x->(k≠j0/\es[k]?=some x)\/(k=j0/\x={e0 with key:=.string t0,val:=val}):=λ k x hx=>by rw[<-Array.getElem?_toList,h3,List.getElem?_set]at hx;split at hx;rename_i e;subst e;split at hx;simp only[z6]at hx;exact .inr ⟨rfl,hx.symm⟩;simp at hx;rename_i e;exact .inl ⟨λ e'=>e e'.symm,by simpa using hx⟩
 refine⟨_,_,_,h4,hP,by rw[hp,<-Array.length_toList,h3];simp[hsz'],λ k x hx=>?_,λ k l x y hx hy e=>?_,λ k x hx=>?_⟩;rw[FT,J];rcases q k x hx with⟨g1,g2⟩|⟨rfl,rfl⟩;obtain⟨t',a1,a2,a3⟩:=O.keys k x g2;exact⟨t',a1,by rw[if_neg g1];exact a2,a3⟩;exact⟨t0,rfl,by rw[if_pos rfl];rfl,vK Y⟩;have ae:es[j0]?=some e0:=by simpa using h1
 have ac:∀(k:Nat)(x:MapEntry),Q[k]?=some x->∃y:MapEntry,es[k]?=some y/\y.key=x.key:=λ k x hx=>by rcases q k x hx with⟨g1,g2⟩|⟨rfl,rfl⟩;exact⟨x,g2,rfl⟩;exact⟨e0,ae,h2⟩
 obtain⟨x',a1,a2⟩:=ac k x hx;obtain⟨y',b1,b2⟩:=ac l y hy;exact O.apart k l x' y' a1 b1 (by rw[a2,b2,e]);rcases q k x hx with⟨g1,g2⟩|⟨rfl,rfl⟩;exact .inl ⟨by rw[J];exact g1,g2⟩;exact .inr ⟨J.symm,rfl⟩
end
section
variable{P:Program}{w:World}{A:Nat->Prop}{M:Id->Option MB}{B:Nat}{H:List aC}
def xFQ(hR:HR w A M B H){o:Oper}{ρc:Operand->Value}{t:TypeId}{om ok ov:Operand}{xm xk xv:AV}{H':List aC}(ho:o.op=.mapUpdate t om ok ov\/o.op=.insert t om ok ov)(hm:aD w A M (ρc om) xm)(hk:aD w A M (ρc ok) xk)(hv:aD w A M (ρc ov) xv)(h:iZ P H t xm xk xv=some H'):Writes P o ρc w A M B (.tuple []) H':=by
 unfold iZ at h;split at h;case h_2=>simp at h
 rename_i n ver i j s id ab off len kt et b9;split at h;case h_2=>simp at h
 rename_i bx b2 cb bh a5;split at h;case isFalse=>simp at h
 rename_i cg;obtain⟨bo,bi,bu,aj,bt,rfl,rfl,ba,ca,Q⟩:=cg;cases h;obtain⟨m,bf,Z,cl,ao⟩:=Vd hR hm bh;obtain⟨az,cf,bp,bw,aq,bq,cq⟩:=Fv bh;obtain⟨es,clock,ck,hcap,bb⟩:=Z.mapKs bp bw bq cq ao;obtain⟨t0,ce,cj⟩:=hk.str_inv;subst cj;obtain⟨m2,a2,am,W,b7,ct,cw⟩:=rm hR hv a5;obtain⟨ah,a0⟩:=lf a5;rw[iQ]at ah;have ap:bW bx.ty:=pN aq;have hne:id≠n:=λ e=>by subst e;rw[az]at ah;cases ah;rw[aj]at ap;cases ap
 have hsz:m.sz=2:=by rw[<-Z.sz];exact bq
 have hA:A m.b:=(Z.guard ao).1 bo;have b6:dD m.ty:=by rw[<-Z.ty];exact KE bp
 obtain⟨aa,af,q,r1,rP,r2,r3,r5,r4⟩:=ck.put b9 cb ca (ρc ov) (.list b2.sz b2.xs);generalize Y:aN bx.xs t0.data.toList=ix at r4;have bj:lq (ChangeMaps.setBlock w m.b (.map af q)) m.b aa q:=⟨af,by simp[ChangeMaps.setBlock,Z.lt ao],rP⟩;have al:∀b,b≠m.b->(ChangeMaps.setBlock w m.b (.map af q)).heap[b]?=w.heap[b]?:=λ b hb=>by simp[ChangeMaps.setBlock,Array.getElem?_setIfInBounds,Ne.symm hb]
 have ai:(ChangeMaps.setBlock w m.b (.map af q)).heap.size=w.heap.size:=by simp[ChangeMaps.setBlock]
 have V:∀b,b<w.heap.size->¬ A b->(ChangeMaps.setBlock w m.b (.map af q)).heap[b]?=w.heap[b]?:=λ b _ hb=>al b λ e=>hb (e▸hA);have bn:n<H.length:=j6 az;have ci:id<H.length:=j6 ah;let M':Id->Option MB:=λ x=>if x=.b id then some ⟨m2.b,m2.ver+1,m2.sz,0,m2.ty⟩else if x=.r n ix 1 then some ⟨m2.b,2*b2.xs.length,m2.sz,m2.cap,m2.ty⟩else M x;have ar:M' (.b id)=some ⟨m2.b,m2.ver+1,m2.sz,0,m2.ty⟩:=by simp[M']
 have an:M' (.r n ix 1)=some ⟨m2.b,2*b2.xs.length,m2.sz,m2.cap,m2.ty⟩:=by simp[M']
 have ag:∀x:Id,x≠.b id->x≠.r n ix 1->M' x=M x:=λ x h1 h2=>by simp[M',h1,h2]
 have bv:∀m0,M (.r n ix 1)=some m0->m0.ver<2*b2.xs.length:=λ m0 h0=>by obtain⟨rb,k1,k2⟩:=hR.box _ m0 h0;obtain⟨k4,k5,k6,k7⟩:=pP az ap k1;have k8:=k2.ver;rw[k7]at k8;unfold aN at Y;unfold gN at Q;cases hi:aP bx.xs t0.data.toList with|none=>rw[hi]at Y;simp only at Y;omega|some i=>rw[hi]at Y Q;simp only at Y Q;subst Y;unfold gc at Q;split at Q;rename_i l0 a6;split at a6;rename_i kk l hl;simp only[z6]at a6;simp only[zl]at Q;rw[hl]at k8;simp only[iT,eK]at k8;omega;simp at a6;simp at Q
 have ad:aR M M':=λ x m0 h0=>by by_cases e1:x=.b id;subst e1;rw[am]at h0;cases h0;exact⟨_,ar,.inr (Nat.lt_succ_self _)⟩;by_cases e2:x=.r n ix 1;subst e2;exact⟨_,an,.inr (bv m0 h0)⟩;exact⟨m0,by rw[ag x e1 e2];exact h0,.inl rfl⟩
 have au:∀x m',M' x=some m'->0<m'.cap->∃y m0,M y=some m0/\m0.b=m'.b/\m0.cap=m'.cap/\(x=.r n ix 1/\y=.b id\/x=y/\y≠.b id/\y≠.r n ix 1):=λ x m' h h0=>by by_cases e1:x=.b id;subst e1;rw[ar]at h;cases h;exact absurd h0 Ψ;by_cases e2:x=.r n ix 1;subst e2;rw[an]at h;cases h;exact⟨_,m2,am,rfl,rfl,.inl ⟨rfl,rfl⟩⟩;rw[ag x e1 e2]at h;exact⟨x,m',h,rfl,rfl,.inr ⟨rfl,e1,e2⟩⟩
 have bg:∀(x:Id) m1 x' m2,M' x=some m1->M' x'=some m2->0<m1.cap->0<m2.cap->m1.b=m2.b->x=x':=λ x m1 x' m2 h1 h2 c1 c2 he=>by obtain⟨y,n1,a1,a2,a3,a4⟩:=au x m1 h1 c1;obtain⟨y',n2,b1,b2,b3,b4⟩:=au x' m2 h2 c2;have:=hR.inj y y' n1 n2 a1 b1 Ω Ω (by rw[a2,b2,he]);subst this;rcases a4 with⟨rfl,e1⟩|⟨rfl,e1,_⟩<;>rcases b4 with⟨rfl,e2⟩|⟨rfl,e2,_⟩;rfl;exact absurd e1 e2;exact absurd e2 e1;rfl
 have ae:∀(x:Id) m0,x≠.b n->M x=some m0->0<m0.cap->(ChangeMaps.setBlock w m.b (.map af q)).heap[m0.b]?=w.heap[m0.b]?:=λ x m0 hx h0 c0=>al m0.b λ e=>hx (hR.inj x (.b n) m0 m h0 bf c0 ao e);generalize ac:dT bx.xs t0.data.toList (.list b2.sz b2.xs)=O at r2 r3;have aw:∀k,O.getD k .top=if k=ix then .agg [.str t0.data.toList,.list b2.sz b2.xs]else bx.xs.getD k .top:=λ k=>by rw[<-ac,<-Y];exact FT k
 have cr:O.length<=bx.xs.length+1:=by rw[<-ac];exact Th.2
 have ch:bx.xs.length<=O.length:=by rw[<-ac];exact Th.1
 have be:ix<O.length:=by rw[<-ac,<-Y];exact xJf
 have b8:ix<=bx.xs.length:=by rw[<-Y];unfold aN;cases hi:aP bx.xs t0.data.toList with|none=>exact zd _|some i=>exact Nat.le_of_lt (vF hi)
 have ax:∀k,k<O.length->k≠ix->k<bx.xs.length:=λ k hk hne=>by unfold dT at ac;unfold aN at Y;cases hi:aP bx.xs t0.data.toList with|none=>rw[hi]at Y;simp only at Y;omega|some i=>rw[hi]at ac;rw[<-ac]at hk;simpa using hk
 have bc:((H.set id ⟨ab+1,b2.sz,b2.ty,[],false,true⟩).set n ⟨ver,2,bx.ty,O,false,true⟩)[n]?=some ⟨ver,2,bx.ty,O,false,true⟩:=zL (by simpa using bn);have bk:((H.set id ⟨ab+1,b2.sz,b2.ty,[],false,true⟩).set n ⟨ver,2,bx.ty,O,false,true⟩)[id]?=some ⟨ab+1,b2.sz,b2.ty,[],false,true⟩:=by rw[zX (Ne.symm hne),zL ci]
 have a8:∀k,de bx.ty k->k=1:=λ k hk=>by rw[Gr hk,<-Gr aq]
 have hR':HR (ChangeMaps.setBlock w m.b (.map af q)) A M' B ((H.set id ⟨ab+1,b2.sz,b2.ty,[],false,true⟩).set n ⟨ver,2,bx.ty,O,false,true⟩):=by refine hR.rebuild (λ k=>k=n\/k=id) (λ k hk cu=>?_) (λ x J=>ag x (λ e=>J (.inr (by rw[e];rfl))) λ e=>J (.inl (by rw[e];rfl))) (λ x m0 J h0 c0=>⟨ae x m0 (λ e=>J (.inl (by rw[e];rfl))) h0 c0,λ h=>h⟩) V (by rw[ai];exact zd _) (λ _ _ h=>h) ad (λ x m' hS J=>?_) (λ x m1 x' m2 _ h1 h2 c1 c2 he=>bg x m1 x' m2 h1 h2 c1 c2 he) (λ b hb=>by rw[ai];exact hR.lt b hb);rw[zX (λ e=>hk (.inl e.symm)),zX (λ e=>hk (.inr e.symm))];by_cases e1:x=.b id;(subst e1;rw[ar]at J;cases J;have hc:∀{p:Prop},0<(0:Nat)->p:=λ h=>absurd h Ψ);exact⟨(⟨ab+1,b2.sz,b2.ty,[],false,true⟩:aC),bk,by simp only;rw[<-W.ver,a0],W.sz,W.ty,zQ _,zQ _,λ x hx=>by simp at hx,hc,hc,hc,hc⟩;by_cases e2:x=.r n ix 1;(subst e2;rw[an]at J;cases J;have cm:getB ((H.set id ⟨ab+1,b2.sz,b2.ty,[],false,true⟩).set n ⟨ver,2,bx.ty,O,false,true⟩) (.r n ix 1)=some ⟨2*b2.xs.length,b2.sz,bM bx.ty,b2.xs,false,true⟩:=by rw[oH bc ap aq rfl be];show some (iT _ ((O.getD ix .top).cells.getD 1 .top))=_;rw[aw,if_pos rfl];rfl);have k4:=W.mono (w':=ChangeMaps.setBlock w m.b (.map af q)) (A':=A) (M':=M') (λ h0=>ae (.b id) m2 (λ e=>hne (by injection e)) am h0) V (by rw[ai];exact zd _) (λ _ _ h=>h) W.guard ad;refine⟨_,cm,rfl,k4.sz,by rw[<-bt];exact k4.ty,k4.capm,k4.fits,k4.ok,k4.low,k4.lt,λ h0=>?_,λ h0=>?_⟩;obtain⟨cc,c1,c2,c3⟩:=k4.cells h0;refine⟨cc,c1,c2,λ i' j' a7 hk=>?_⟩;have h4:=c3 i' j' a7 hk;rw[jL aj,jY aj,bu]at h4;rw[jL (pf _),jY (bx:=⟨2*b2.xs.length,b2.sz,bM bx.ty,b2.xs,false,true⟩) (pf _)];exact h4;have:=k4.guard h0;rw[bi]at this;exact this;by_cases ak:x.base=id;(rw[ag x e1 e2]at J;obtain⟨bx',k1,k2⟩:=hR.box x m' J;cases x with|b k=>exact absurd (by rw[<-ak];rfl) e1|r k i' j'=>simp only[Id.base]at ak;subst ak;rw[pg ah aj]at k1;cases k1;exact⟨fY,pg bk aj,k2.mono (λ h0=>ae _ m' (λ e=>by cases e) J h0) V (by rw[ai];exact zd _) (λ _ _ h=>h) k2.guard ad⟩);(have ay:x.base=n:=by rcases hS with h|h;exact h;exact absurd h ak);rw[ag x e1 e2]at J;obtain⟨bx',k1,k2⟩:=hR.box x m' J;cases x with|r n' i' j'=>((simp only[Id.base]at ay;subst ay;have k3:getB ((H.set id ⟨ab+1,b2.sz,b2.ty,[],false,true⟩).set n' ⟨ver,2,bx.ty,O,false,true⟩) (.r n' i' j')=some bx':=by obtain⟨bz,e3,e4,e5⟩:=pP az ap k1;have cd:=a8 j' bz;subst cd;have cp:i'≠ix:=λ e=>e2 (by rw[e]);rw[oH bc ap aq rfl (by show i'<O.length;omega),e5];(show some (iT _ ((O.getD i' .top).cells.getD 1 .top))=_;rw[aw,if_neg cp];have:∀y:AV,iT ⟨ver,2,bx.ty,O,false,true⟩ y=iT bx y:=λ y=>by cases y<;>simp[iT,bo]);rw[this]);exact⟨bx',k3,k2.mono (λ h0=>ae _ m' (λ e=>by cases e) J h0) V (by rw[ai];exact zd _) (λ _ _ h=>h) k2.guard ad⟩)|b n'=>(simp only[Id.base]at ay;subst ay;rw[bf]at J;cases J;have hroom':O.length<=maxLen:=by unfold f7 at ba;unfold maxLen;omega);refine⟨⟨ver,2,bx.ty,O,false,true⟩,bc,cf.symm.trans Z.ver,hsz.symm,Z.ty,Z.capm,by rw[hcap];exact hroom',λ y hy=>?_,Z.low,λ h0=>by rw[ai];exact Z.lt h0,λ h0=>?_,λ _=>⟨λ _=>hA,λ _=>rfl⟩⟩;rw[hsz];obtain⟨k,hk,rfl⟩:=vG hy;rw[aw];by_cases a9:k=ix;rw[if_pos a9];exact SX rfl;rw[if_neg a9,<-hsz];exact Z.ok _ (jA (ax k hk a9));(let c':Array Value:=Array.ofFn (n:=maxLen*2) λ k=>match aa[k.val / 2]? with|some x=>if k.val % 2=0 then x.key else x.val|none=>undef);(have cv:aa.size<=maxLen:=by rw[r2];exact hroom');(have b5:∀(k:Nat)(x:MapEntry),aa[k]?=some x->k<aa.size:=λ k x hx=>by rcases zJ k aa.size with h|h;exact h;simp[Array.getElem?_eq_none h]at hx);(have hc':∀(k:Nat)(x:MapEntry),aa[k]?=some x->c'.getD (k*m.sz) undef=x.key/\c'.getD (k*m.sz+1) undef=x.val:=λ k x hx=>by(have hk:=b5 k x hx;rw[hsz];have e1:k*2<maxLen*2:=Ω);(have e2:k*2+1<maxLen*2:=Ω);constructor;rw[zu,Array.getElem?_ofFn,dif_pos e1];simp only[zh,Nat.mul_div_cancel _ (by omega:0<2),hx,Nat.mul_mod_left,if_true];(rw[zu,Array.getElem?_ofFn,dif_pos e2];have d1:(k*2+1) / 2=k:=Ω);(have d2:¬ (k*2+1) % 2=0:=Ω);simp only[zh,d1,hx,d2,if_false]);refine⟨c',?_,by rw[hcap,hsz];exact Array.size_ofFn,λ i' j' a7 co=>?_⟩;unfold bX;rw[b6];exact⟨aa,q,bj,r2,hcap,hc',λ k x hx=>by obtain⟨t',a1,_,a3⟩:=r3 k x hx;exact⟨t',a1,a3⟩,r5⟩;(have b0:i'<aa.size:=by rw[r2];exact a7);obtain⟨x,hx⟩:∃x,aa[i']?=some x:=⟨aa[i'],by simp[b0]⟩;rw[hsz]at co;rcases j' with _|_|j';rw[Nat.add_zero,(hc' i' x hx).1];obtain⟨t',a1,a2,_⟩:=r3 i' x hx;unfold MV fy;simp only[bw];rw[a1,a2];exact .str t';rw[(hc' i' x hx).2];unfold MV fy;simp only[aq];rw[aw];rcases r4 i' x hx with⟨g1,g2⟩|⟨g1,g2⟩;rw[if_neg g1];have h4:=bb i' x g2;unfold MV fy at h4;simp only[aq]at h4;exact h4.mono V (by rw[ai];exact zd _) (λ _ _ h=>h) ad;rw[if_pos g1,g2];subst g1;obtain⟨m3,q1,q2,q3,q4⟩:=aD.osl_inv hv;rw[am]at q1;cases q1;obtain⟨q5,a,q6,q7⟩:=q4 (by rw[<-a0,W.ver]);exact .osl _ (.r n' i' 1) _ _ _ _ an (zd _) q3 λ _=>⟨q5,a,q6,q7⟩;omega
 refine⟨.skip,ChangeMaps.setBlock w m.b (.map af q),A,M',undef,?_,.inr ⟨rfl,rfl⟩,⟨rfl,rfl,rfl,by rw[ai];exact zd _,λ k hk=>al k λ e=>by have:=Z.low ao;omega⟩,ad,λ _ _=>Iff.rfl,V,⟨λ b _ hb=>al b λ e=>hb (.b n) m bf ao e.symm,λ x m' h h0=>?_⟩,hR',.tuple #[] [] rfl Ψ⟩;rcases ho with ho|ho<;>simp only[execOp,ho,Sem.run_bind,cl,ce,r1,Result.andThen_ok,Sem.run_pure];obtain⟨y,m0,a1,a2,a3,_⟩:=au x m' h h0;exact .inl ⟨y,m0,a1,by omega,a2.symm⟩
end
def xDI(hR:HR w A M B H)(hB:B<=w.heap.size){t:TypeId}{r:AV}(ho:o.op=.makeMap t none)(h:iY P H t=some (r,H')):Writes P o ρc w A M B r H':=by
 unfold iY at h;split at h;case h_2=>simp at h
 rename_i kt et ag;split at h;case h_2=>simp at h
 rename_i ty ah af;split at h;case isFalse=>simp at h
 rename_i aa;obtain⟨Q,ac⟩:=aa;cases h;have hn:gH M H.length:=hR.free_of_length (zd _);have q:=vg w (.map #[] 0);have W:gA ty=ty:=by unfold gA;rw[ac,Q]
 let m:MB:=⟨w.heap.size,0,2,maxLen,ty⟩;have O:aR M (bK M H.length m):=Ge hn m;have hA:∀b,b<w.heap.size->(jw A w.heap.size false b->A b):=λ b hb h=>by rcases h with h|⟨h,_⟩;exact h;omega
 have J:bK M H.length m (.b H.length)=some m:=by simp[bK]
 have ae:(H++[⟨0,2,ty,[],false,true⟩])[H.length]?=some ⟨0,2,ty,[],false,true⟩:=by simp
 have ab:∀x:Id,x≠.b H.length->bK M H.length m x=M x:=λ x hx=>by simp[bK,hx]
 have hR':HR (w.alloc (.map #[] 0)) (jw A w.heap.size false) (bK M H.length m) B (H++[⟨0,2,ty,[],false,true⟩]):=by refine hR.rebuild (λ k=>k=H.length) (λ k hk Z=>zO Z) (λ x hx=>ab x λ e=>hx (by rw[e];rfl)) (λ x m0 hx h0 c0=>?_) (λ b hb _=>q.block b hb) q.size hA O (λ x m0 hx h0=>?_) (λ x m1 x' m2 hx h1 h2 c1 c2 he=>?_) (λ b hb=>?_);obtain⟨bx,_,k2⟩:=hR.box x m0 h0;exact⟨q.block _ (k2.lt c0),.inl⟩;(cases x with|b k=>(have hx:k=H.length:=hx;subst hx;rw[J]at h0;cases h0;refine⟨_,ae,rfl,rfl,W,zd _,zQ _,λ y hy=>by simp at hy,λ _=>hB,λ _=>by simp[m],λ _=>⟨Array.replicate (maxLen*2) undef,?_,by simp[m],λ i j hi _=>by simp at hi⟩,λ _=>⟨λ _=>.inr ⟨rfl,rfl⟩,λ _=>rfl⟩⟩;(unfold bX;show match dD ty with|false=>_|true=>_);rw[Q];exact⟨#[],0,⟨#[],heap_alloc_new w _,.refl _,by simp,by simp⟩,rfl,rfl,λ k x hx=>by simp at hx,λ k x hx=>by simp at hx,λ k l x y hx=>by simp at hx⟩)|r k i j=>(have hx:k=H.length:=hx;subst hx;have:bK M H.length m (.r H.length i j)=M (.r H.length i j):=by simp[bK]);rw[this,hn.2]at h0;cases h0);(have ad:x=.b H.length:=by cases x with|b k=>have hx:k=H.length:=hx;rw[hx]|r k i j=>(have hx:k=H.length:=hx;subst hx;have:bK M H.length m (.r H.length i j)=M (.r H.length i j):=by simp[bK]);rw[this,hn.2]at h1;cases h1);subst ad;rw[J]at h1;cases h1;by_cases V:x'=.b H.length;exact V.symm;(have h2':M x'=some m2:=by simpa[bK,V]using h2);obtain⟨bx',_,h3⟩:=hR.box x' m2 h2';have:=h3.lt c2;rw[<-he]at this;simp[m]at this;rcases hb with hb|⟨rfl,_⟩;have:=hR.lt b hb;simp;omega;simp
 refine⟨.value (.map (some w.heap.size)),w.alloc (.map #[] 0),jw A w.heap.size false,bK M H.length m,.map (some w.heap.size),?_,.inl rfl,⟨rfl,rfl,rfl,q.size,λ k hk=>q.block k (Nat.lt_of_lt_of_le hk hB)⟩,O,λ b hb=>⟨hA b hb,.inl⟩,λ b hb _=>q.block b hb,ip.of_new q (λ id m' h=>?_),hR',.own _ (.b H.length) 0 0 0 m J (zd _) rfl λ _=>?_⟩;simp[execOp,ho,Instr.makeMap];by_cases Y:id=.b H.length;subst Y;rw[J]at h;cases h;exact .inr (zd _);exact .inl (by simpa[bK,Y]using h);unfold fE;show _=match dD ty with|true=>_|false=>_
 rw[Q];rfl
end
end
section
variable{P:Program}{w:World}{A:Nat->Prop}{M:Id->Option MB}{B:Nat}{H:List aC}
def nF(P:Program)(ρ:Operand->AV)(H:List aC)(op:Op):Option (AV×List aC):=match op with|.store t a v=>(match GP H (ρ a)with|true=>(match gI P H t (ρ a) (ρ v)with|some H'=>some (.tuple [],H')|none=>none)|false=>match gK P H t (ρ a) (ρ v)with|some H'=>some (.tuple [],H')|none=>none)|.call c=>(match c.callee with|.builtin b=>(match b,c.argTypes.toList,c.args.toList with|.append,[t,t'],[s,x]=>(match mD (ρ s)with|true=>i7 P H t t' (ρ s) (ρ x)|false=>match GP H (ρ s)with|true=>iV P H t t' (ρ s) (ρ x)|false=>y8 P H t t' (ρ s) (ρ x))|_,_,_=>none)|_=>none)|.lookup t m k c=>(match bH P H t (ρ m) (ρ k) c with|some r=>some (r,H)|none=>match dr P H t (ρ m) (ρ k) c with|some r=>some (r,H)|none=>match cD P H t (ρ m) (ρ k) c with|some r=>some (r,H)|none=>none)|.mapUpdate t m k v=>(match fz P H t (ρ m) (ρ k) (ρ v)with|some H'=>some (.tuple [],H')|none=>match iZ P H t (ρ m) (ρ k) (ρ v)with|some H'=>some (.tuple [],H')|none=>none)|.makeMap t r=>(match r with|none=>iY P H t|some _=>none)|_=>none
def xHr(hR:HR w A M B H)(hB:B<=w.heap.size){ρ:Operand->AV}{ρc:Operand->Value}{o:Oper}{x:AV}{H':List aC}(hρ:∀a,aD w A M (ρc a) (ρ a))(h:nF P ρ H o.op=some (x,H')):Writes P o ρc w A M B x H':=by
 unfold nF at h;split at h;rename_i t a v ho;split at h;split at h;case h_2=>simp at h
 rename_i H2 q;cases h;exact xDr hR ho (hρ a) (hρ v) q;split at h;case h_2=>simp at h
 rename_i H2 q;cases h;exact xD1 hR ho (hρ a) (hρ v) q;rename_i c ho;split at h;case h_2=>simp at h
 rename_i b J;split at h;rename_i t t' s y O Q;split at h;exact xGc hR hB ho J O Q (hρ s) (hρ y) h;split at h;exact xFf hR hB ho J O Q (hρ s) (hρ y) h;exact xu9 hR hB ho J O Q (hρ s) (hρ y) h;simp at h;rename_i t m k c ho;split at h;rename_i r q;cases h;exact xDG hR ho (hρ m) (hρ k) q;split at h;rename_i r q;cases h;exact xFH hR ho (hρ m) (hρ k) q;split at h;case h_2=>simp at h
 rename_i r q;cases h;exact xDH hR ho (hρ m) (hρ k) q;rename_i t m k v ho;split at h;rename_i H2 q;cases h;exact xFO hR (.inl ho) (hρ m) (hρ k) (hρ v) q;split at h;case h_2=>simp at h
 rename_i H2 q;cases h;exact xFQ hR (.inl ho) (hρ m) (hρ k) (hρ v) q;rename_i t r ho;split at h;exact xDI hR hB ho h;simp at h;simp at h
end
def g9(P:Program)(H:List aC)(nid:Nat)(t tt:TypeId)(s x:AV):Option (AV×Option aC):=match s with|.empt=>(match bN P t with|some ti=>(match ti.d with|.slice e=>(match bN P e with|some te=>(match gb P H t tt e te.sz x with|some (ys,pm)=>if 0<te.sz/\ys.length*te.bytes<=140737488355328/\ys.length<=f7/\te.zero.okElem te.sz then some (.osl nid 0 0 ys.length,some ⟨0,te.sz,e,ys,false,pm⟩)else none|none=>none)|none=>none)|_=>none)|none=>none)|_=>none
section
variable{P:Program}{w:World}{A:Nat->Prop}{M:Id->Option MB}{B:Nat}{H:List aC}{nid:Nat}
def HR.virtAt(hR:HR w A M B H)(hn:gH M nid){bx:aC}(hH:H[nid]?=some bx)(hx:bx.xs=[])(W:bW bx.ty=false):aR M (bK M nid ⟨0,bx.ver,bx.sz,0,bx.ty⟩)/\pY w M (bK M nid ⟨w.heap.size,bx.ver,bx.sz,0,bx.ty⟩) nid/\HR w A (bK M nid ⟨w.heap.size,bx.ver,bx.sz,0,bx.ty⟩) B H/\bK M nid ⟨w.heap.size,bx.ver,bx.sz,0,bx.ty⟩ nid=some ⟨w.heap.size,bx.ver,bx.sz,0,bx.ty⟩/\aR M (bK M nid ⟨w.heap.size,bx.ver,bx.sz,0,bx.ty⟩):=by
 have Q:aR M (bK M nid ⟨w.heap.size,bx.ver,bx.sz,0,bx.ty⟩):=Ge hn _;have O:∀id m',bK M nid ⟨w.heap.size,bx.ver,bx.sz,0,bx.ty⟩ id=some m'->0<m'.cap->M id=some m':=λ id m' hm h0=>by by_cases q:id=.b nid;subst q;simp[bK]at hm;subst hm;exact absurd h0 Ψ;simpa[bK,q]using hm
 refine⟨Ge hn _,⟨λ id q=>by simp[bK,q],λ m' J=>.inr (by simp[bK]at J;subst J;exact zd _)⟩,⟨λ id m' J=>?_,λ id id' m1 m2 h1 h2 c1 c2 he=>hR.inj id id' m1 m2 (O id m1 h1 c1) (O id' m2 h2 c2) c1 c2 he,hR.lt⟩,by simp[bK],Q⟩;by_cases q:id=.b nid;subst q;have:m'=⟨w.heap.size,bx.ver,bx.sz,0,bx.ty⟩:=by simp[bK]at J;exact J.symm
 subst this;have hc:∀{p:Prop},0<(0:Nat)->p:=λ h=>absurd h Ψ;exact⟨bx,hH,rfl,rfl,lZ W,zQ _,by rw[hx];exact zQ _,λ x V=>by rw[hx]at V;simp at V,hc,hc,hc,hc⟩;have Y:M id=some m':=by simpa[bK,q]using J
 obtain⟨bx',g1,g2⟩:=hR.box id m' Y;exact⟨bx',g1,g2.mono (λ _=>rfl) (λ _ _ _=>rfl) (zd _) (λ _ _ h=>h) g2.guard Q⟩
def xFg(hR:HR w A M B H)(hB:B<=w.heap.size)(hn:gH M nid){o:Oper}{ρc:Operand->Value}{c:Call}{t tt:TypeId}{os ox:Operand}{xs xx r:AV}{nb:Option aC}(ho:o.op=.call c)(ah:c.callee=.builtin .append)(ax:c.argTypes.toList=[t,tt])(a1:c.args.toList=[os,ox])(hs:aD w A M (ρc os) xs)(hx:aD w A M (ρc ox) xx)(h:g9 P H nid t tt xs xx=some (r,nb))(hH:∀bx,nb=some bx->∃f,H[nid]?=some {bx with frz:=f}):Gives P o ρc w A M B H nid r:=by
 unfold g9 at h;split at h;case h_2=>simp at h
 split at h;case h_2=>simp at h
 rename_i ti az;split at h;case h_2=>simp at h
 rename_i e hd;split at h;case h_2=>simp at h
 rename_i te W;split at h;case h_2=>simp at h
 rename_i ys pm aw;split at h;case isFalse=>simp at h
 rename_i au;obtain⟨ac,ar,al,O⟩:=au;cases h;obtain⟨f,aj⟩:=hH _ rfl;have hu:P.underlying t=some (.slice e):=by rw[vM az,hd]
 obtain⟨i,z,ab,a2,a0,aq,ag,ao,_⟩:=me W;have af:bW e=false:=FN W;have hts':c.argTypes=#[t,tt]:=by apply Array.ext';simpa using ax
 have has':c.args=#[os,ox]:=by apply Array.ext';simpa using a1
 have q:∀v w',(Builtin.append_ #[t,tt] o.type #[ρc os,ρc ox]).run P w=.ok v w'->(execOp ρc o).run P w=.ok (.value v) w':=by intro v w' hv;simp[execOp,ho,resolve,ah,hts',has',invoke,builtin,hv,Go.resolve]
 have Q:∃a,ρc os=.slice a 0 0:=by generalize ρc os=v at hs;cases hs with|empt a=>exact⟨a,rfl⟩
 obtain⟨a,Q⟩:=Q;rw[Q]at q;rcases QW hR W ac hu (ty:=o.type) ab hx aw with⟨rfl,an⟩|⟨a5,am,news,ai,ak,V⟩;obtain⟨_,g2,g3,g4,g5⟩:=hR.virtAt hn aj rfl af;exact⟨.slice a 0 0,w,A,_,q _ _ (an a 0 0 (zd _)),Below.refl _ _,g5,λ _ _=>Iff.rfl,g2,g3,.osl _ (.b nid) 0 0 0 _ g4 (zd _) rfl λ _=>⟨by simp,a,by simp,λ h=>by simp at h⟩⟩;have a4:ys.length<=4611686018427387904:=al;have ay:aD w A M z te.zero:=by rw[ao];exact nX w A M z
 obtain⟨a6,_⟩:=ay.cells (lg O);have a3:=jM O;have J:(Builtin.append_ #[t,tt] o.type #[.slice a 0 0,ρc ox]).run P w=.ok (.slice (some ⟨w.heap.size,0,none⟩) ys.length (grownCap w ys.length 0 e)) (w.drew.alloc (.cells (news.toArray++Builtin.zeroCells z.cells (grownCap w ys.length 0 e - ys.length)) e)):=by have R:=V i z ab a0 aq.symm;cases a with|none=>exact R.nil Ω (by rw[<-ag];omega)|some b=>have:=R.grow b 0 0 [] Ψ (λ j u hj=>by simp at hj) Ω Ω (growslice_fits Ω (by rw[<-ag];simpa using ar));simpa using this
 have Y:=grownCap_ge w ys.length 0 e;have ae:=grownCap_le_maxLen w ys.length 0 e (by unfold maxLen;omega);generalize hcap:grownCap w ys.length 0 e=cap at J Y ae;have ad:(Builtin.zeroCells z.cells (cap - ys.length)).size=(cap - ys.length)*te.sz:=by rw[size_zeroCells];congr 1;omega
 have ap:=FO (bx:=⟨0,te.sz,e,ys,f,pm⟩) (nid:=nid) (c:=news.toArray++Builtin.zeroCells z.cells (cap - ys.length)) (cap:=cap) hR.drew (by simpa using hB) hn af aj ae
  (by rw[Array.size_append,List.size_toArray,ai,ad,<-Nat.add_mul];congr 1;omega) Y am
  (fun i' j Z hj=>by
   have hk:i'*te.sz+j<ys.length*te.sz:=mi Z hj;have e1:(news.toArray++Builtin.zeroCells z.cells (cap - ys.length)).getD (i'*te.sz+j) undef=news.getD (i'*te.sz+j) undef:=by
    simp only[zu,Array.getElem?_append,List.size_toArray,ai,hk,if_true,List.getElem?_toArray,z7]
   rw [e1];exact (ak _ _ Z hj).grow ⟨rfl,rfl,rfl,zd _,fun _ _=>rfl⟩)
 obtain⟨s1,s2,s3,s4,s5⟩:=ap;have aa:Below w.heap.size w (w.drew.alloc (.cells (news.toArray++Builtin.zeroCells z.cells (cap - ys.length)) e)):=((Below.refl _ _).drew).alloc Ψ _;exact⟨_,_,_,_,q _ _ J,aa,s1,s2,s3,s4,.osl _ (.b nid) 0 0 ys.length _ s5 (zd _) rfl λ _=>⟨by simpa using Y,some ⟨w.heap.size,0,none⟩,by simp,λ _=>by simp⟩⟩
end
variable {H:List aC}{M:Id->Option MB}{P:Program}{o:Oper}{x:AV}{ρc:Operand->Value}
def xJ4{w:World}{A:Nat->Prop}{B:Nat}{nid:Nat}{e:TypeId}{v:Value}(hR:HR w A M B H)(hv:aD w A M v x)(J:x.cells.all AV.one)(hp:x.pure)(Q:(execOp ρc o).run P w=.ok (.value (.pointer (some ⟨w.heap.size,0,none⟩))) (w.alloc (.cells v.cells e))):Gives P o ρc w A M B H nid (.eptr x.cells.length [x] 0 0):=by
 obtain⟨h1,h2⟩:=hv.cells J;have q:=vg w (.cells v.cells e);have V:¬ A w.heap.size:=λ h=>Nat.lt_irrefl _ (hR.lt _ h);have:=aD.eptr (w:=w.alloc (.cells v.cells e)) (A:=A) (M:=M) w.heap.size 0 x.cells.length [x] 0 0 (λ _ j=>v.cells.getD j undef) V Ψ Ψ
  (λ y hy=>by simp only[zv]at hy;subst hy;simp only[AV.okElem,beq_self_eq_true,Bool.true_and];exact J)
  (fun i j hi hj=>by
   have O:i=0:=by simpa using hi
   subst O;have hj':j<v.cells.size:=by rw[h1];exact hj
   have hb:(w.alloc (.cells v.cells e)).heap[w.heap.size]?=some (.cells v.cells e):=heap_alloc_new w _;rw [Nat.zero_mul,zH];unfold World.cell?;simp only [hb];simp [hj'])
  (fun i j hi hj=>by
   have O:i=0:=by simpa using hi
   subst O;exact ((h2 j hj).pure (tE (FU hp) j)).grow q)
 exact⟨_,w.alloc (.cells v.cells e),A,M,Q,q,aR.refl M,λ _ _=>Iff.rfl,⟨λ _ _=>rfl,λ _ h=>.inl h⟩,hR.grow q,by simpa using this⟩
def fU(P:Program)(ρ:Operand->AV)(H:List aC)(nid:Nat)(op:Op):Option (AV×Option aC):=match op with|.buildSlice t len parts=>(match len,parts.toList with|0,[]=>(match bN P t with|some ti=>(match ti.d with|.slice e=>(match bN P e with|some _=>some (.empt,none)|none=>none)|_=>none)|none=>none)|_,_=>none)|.call c=>(match c.callee with|.builtin b=>(match b,c.argTypes.toList,c.args.toList with|.append,[t,t'],[s,x]=>g9 P H nid t t' (ρ s) (ρ x)|_,_,_=>none)|_=>none)|.box _ x=>if(ρ x).cells.all AV.one/\(ρ x).pure then some (.eptr (ρ x).cells.length [ρ x] 0 0,none)else none|.lookup t m k c=>(match bH P H t (ρ m) (ρ k) c with|some r=>some (r,none)|none=>match cD P H t (ρ m) (ρ k) c with|some r=>some (r,none)|none=>none)|_=>none
variable {ρ:Operand->AV}
theorem xIO{n n':Nat}{op:Op}(h:fU P ρ H n op=some (x,none)):fU P ρ H n' op=some (x,none):=by unfold fU g9 at *;(repeat' split at h)<;>(try simp_all)<;>grind
def xFz{w:World}{A:Nat->Prop}{B:Nat}{nid:Nat}{nb:Option aC}(hf:fU P ρ H nid o.op=some (x,nb))(hρ:∀a,a∈o.op.operands.toList->aD w A M (ρc a) (ρ a))(hR:HR w A M B H)(hB:B<=w.heap.size)(hn:gH M nid)(hH:∀bx,nb=some bx->∃f,H[nid]?=some {bx with frz:=f}):Gives P o ρc w A M B H nid x:=by
 unfold fU at hf;split at hf;rename_i t len V ho;split at hf;case h_2=>simp at hf
 rename_i q;split at hf;case h_2=>simp at hf
 rename_i ti ad;split at hf;case h_2=>simp at hf
 rename_i e hd;split at hf;case h_2=>simp at hf
 rename_i te ac;cases hf;have ae:V=#[]:=by apply Array.ext';simpa using q
 subst ae;have ab:P.underlying t=some (.slice e):=by rw[vM ad,hd]
 obtain⟨i,z,aa,ah,ag,ai,_⟩:=me ac;have Y:(Instr.buildSlice t 0 #[]).run P w=.ok (.slice (some ⟨w.heap.size,0,none⟩) 0 0) (w.alloc (.cells #[] e)):=by simp[Instr.buildSlice,run_underlying ab,sizeOf,typeInfo,aa,Go.newRow,zeroValue,ag,Instr.fill,show Array.range 0=#[] from rfl]
 have Q:=vg w (.cells #[] e);refine⟨.slice (some ⟨w.heap.size,0,none⟩) 0 0,w.alloc (.cells #[] e),A,M,?_,Q,aR.refl M,λ _ _=>Iff.rfl,⟨λ _ _=>rfl,λ _ h=>.inl h⟩,hR.grow Q,.empt _⟩;simp only[execOp,ho,List.map_toArray,zW,Array.map_empty,Sem.run_bind,Y,Result.andThen_ok,Sem.run_pure];rename_i c ho;split at hf;case h_2=>simp at hf
 rename_i b O;split at hf;rename_i t t' s y af W;have J:∀a,a∈c.args.toList->aD w A M (ρc a) (ρ a):=λ a ha=>hρ a (by simp[ho,Op.operands,Call.operands,O];simpa using ha);exact xFg hR hB hn ho O af W (J s (by rw[W];simp)) (J y (by rw[W];simp)) hf hH;simp at hf;rename_i e a ho;split at hf;case isFalse=>simp at hf
 rename_i hc;obtain⟨Z,hp⟩:=hc;cases hf;exact xJ4 (e:=e) hR (hρ a (by simp[ho,Op.operands])) Z hp (by simp[execOp,ho,Instr.box,newVar,Go.newRow]);rename_i t m k c ho;split at hf;rename_i r hr;cases hf;obtain⟨v,h1,h2⟩:=Ue hR (hρ m (by simp[ho,Op.operands])) (hρ k (by simp[ho,Op.operands])) hr;exact .stay hR ⟨v,by simp[execOp,ho,h1],h2⟩;split at hf;case h_2=>simp at hf
 rename_i r hr;cases hf;obtain⟨v,h1,h2⟩:=Uf hR (hρ m (by simp[ho,Op.operands])) (hρ k (by simp[ho,Op.operands])) hr;exact .stay hR ⟨v,by simp[execOp,ho,h1],h2⟩;simp at hf
end Go.Sim
end
