/- Part 11 of the proof of the law. -/
import Derived.Test.YtefdfdjimkinpaaGreatDoorTA10
import Derived.Shelf.SlSortCmp.WholeK
import Derived.Shelf.SlSortCmp.Whole1
import Derived.Shelf.SlSortCmp.NoneTotal
set_option linter.defProp false
set_option linter.unusedVariables false
set_option linter.unusedSimpArgs false
noncomputable section
namespace Go.Sim
open Go.RowKit Go.Proofs Go.Shelf Go.Sort
variable {α : Type} [Inhabited α]
def encI (q:α->List Int) (x:α):AV:=.agg ((q x).map (AV.int .i64))
def encC' (q:α->List Int) (x:α):List Value:=(q x).map (Value.int .i64)
noncomputable def pdqL (cf:α->α->Int) (l:List α):List α:=(pdq (ltOf cf) l.toArray 0 l.length (Lib.bitLen l.length) true true).toList
def xl1 (cf:α->α->Int) (hO:SWO (ltOf cf)) (l:List α):(pdqL cf l).Perm l/\SortedIn (ltOf cf) 0 l.length (pdqL cf l).toArray:=by
 have h:=pdq_sorts (ltOf cf) hO l.toArray 0 l.length (Lib.bitLen l.length) true true (zR _) (by simp) (Or.inl rfl)
 obtain ⟨⟨hs,_,hp⟩,h2⟩:=h;unfold pdqL;have hs:(pdq (ltOf cf) l.toArray 0 l.length (Lib.bitLen l.length) true true).size=l.length:=by simpa using hs
 refine ⟨?_,h2⟩;have e2:l.toArray.extract 0 l.length=l.toArray:=by simp
 rw [e2] at hp;generalize pdq (ltOf cf) l.toArray 0 l.length (Lib.bitLen l.length) true true=D at hs hp |-;have e1:D.extract 0 l.length=D:=by rw [<-hs];exact Array.extract_size
 rw [e1] at hp;simpa using hp
def xrj (cf:α->α->Int) (hO:SWO (ltOf cf)) (l:List α):(pdqL cf l).Pairwise fun x y=>¬ cf y x<0:=by
 obtain ⟨hp,hs⟩:=xl1 cf hO l;have hl:(pdqL cf l).length=l.length:=hp.length_eq;rw [zC];intro i j hi hj q;have:=hs i j (zR _) q (by omega)
 simp only [ltOf,List.getElem!_toArray,List.getElem!_eq_getElem?_getD,zf hi,zf hj,zi,decide_eq_false_iff_not] at this;exact this
def xsC {w:World} {b:Nat} {f:Array Value->Array Value} {c:Array Value} {t:TypeId} {fr:Nat×Nat} (h:w.heap[b]?=some (.cells c t fr)):mapBlock w b f=w.setRow b (f c):=by
 unfold mapBlock World.setRow;congr 1;apply Array.ext_getElem?;intro k;simp only [Array.getElem?_modify];by_cases hk:b=k
 . subst hk;simp only [if_true,h,Option.map_some,onCells]
 . simp [hk]
def xBf {w:World} {A:Nat->Prop} {M:Id->Option MB} {v:Value} {f:FuncId} (h:Rel w A M v (.func f [])) (q:Nat.beq f vpF=false):∃ vs:Array Value,v=.func (.func f) #[] vs/\vs.size=([]:List AV).length:=by
 cases h with
 | func _ vs _ h hr hf=>exact ⟨vs,rfl,h⟩
 | nmap=>exact absurd q (by decide)
section
variable {P : Program} {ρ : Ren} {Inv : IV}
def xpE (L:SlLaysF0.n6 P ρ) (k:Nat) (am:0<k) (aE:∀ w,(isAgg (ρ.t 24)).run P w=.ok true w) (zE:∀ w,(Go.sizeOf (ρ.t 24)).run P w=.ok k w)
  (D:α->List Int) (hk:∀ x,(D x).length=k) (cf:α->α->Int) (hO:SWO (ltOf cf)) (g:Nat) (aw:Nat.beq g vpF=false) (an:Enters P (ρ.f 6)) (eg:∀ args w,(callFunc g args).run P w=.ok (.enter g args) w)
  (al:∀ x y W,Calls P g #[.agg (encC' D x).toArray,.agg (encC' D y).toArray] W fun e w'=>e=.returned (.int .i64 (cf x y))/\∃ q os',w'=Sort.grow (W.drewN q) os')
  (ver ty:Nat) (V:isC ty=false) (l:List α) (hl:l.length<4611686018427387904) :
  GoodM P Inv (ρ.f 6) [.osl (.b 0) ver 0 l.length,.func g []] [⟨ver,k,ty,l.map (encI D),false,true⟩] (.tuple []) [⟨ver,k,ty,(pdqL cf l).map (encI D),false,true⟩]:=by
 refine ⟨an,fun w0 w A M vs hI hB hR a2=>?_⟩
 obtain ⟨v,u,rfl,h1,h2⟩:=rc2 a2;obtain ⟨fs,rfl,af⟩:=xBf h2 aw;have af:fs=#[]:=by simpa using af
 subst af;have a7:xIb [⟨ver,k,ty,l.map (encI D),false,true⟩] (.b 0) ver=some ⟨ver,k,ty,l.map (encI D),false,true⟩:=xky (n:=0) (bx:=⟨ver,k,ty,l.map (encI D),false,true⟩) rfl V;obtain ⟨m,a,hm,J,hcap,rfl,ha⟩:=xil hR h1 a7;have Y:=J.fits;have hsz:=J.sz;have ac:=J.ver;have ae:=J.ty;rw [xbJ V] at ae;simp only [za] at Y hsz ac ae;by_cases bc:m.cap=0
 . have au:l=[]:=zB (by omega)
   subst au;have a0:pdqL cf ([]:List α)=[]:=zB (xl1 cf hO []).1.length_eq;rw [a0];refine (AnyF.slices_SortFunc_none { L with } a m.cap (.func (.func g) #[] #[]) w).mono ?_;rintro e w' ⟨rfl,rfl⟩;exact ⟨_,A,M,rfl,hB,fun _ _=>Iff.rfl,Ev.refl,hR,.tuple _ _ rfl fun i hi=>by simp at hi⟩
 . have Q:0<m.cap:=by omega
   obtain ⟨c,hh,ah,a9⟩:=J.plainCells V Q;obtain rfl:=ha Q;have ay:=J.lt Q;have bb:=J.low Q;have ag:∀ i j,i<l.length->j<k->c.getD (i*k+j) undef=.int .i64 ((D (l.toArray[i]!)).getD j 0):=fun i j hi hj=>by
    have h:=a9 i j (by simpa using hi) (by rw [<-hsz];exact hj)
    rw [<-hsz] at h;have hj':j<(D l[i]).length:=by rw [hk];exact hj
    have e:(((l.map (encI D)).getD i .top).cells.getD j .top)=.int .i64 ((D (l.toArray[i]!)).getD j 0):=by
     simp [z7,hi,encI,AV.cells,hj']
    rw [e] at h;exact h.int_inv
   have ao:∀ t n,t<n*k->t / k<n/\t % k<k/\t / k*k+t % k=t:=fun t n h=>by
    refine ⟨Nat.div_lt_of_lt_mul (by rwa [Nat.mul_comm]),Nat.mod_lt _ am,?_⟩
    rw [Nat.mul_comm];exact Nat.div_add_mod t k
   have Z:HoldsK (encC' D) k w m.b 0 l.toArray:=by
    intro j hj;have hj:j<l.length*k:=by simpa using hj
    obtain ⟨h1,h2,h3⟩:=ao j l.length hj;have ai:j<c.size:=by
     rw [ah,<-hsz];exact Nat.lt_of_lt_of_le hj (Nat.mul_le_mul_right _ Y)
    have hv:=ag (j / k) (j % k) h1 h2;rw [h3] at hv;have hg:(flatK (encC' D) k l.toArray)[j]! = .int .i64 ((D (l.toArray[j / k]!)).getD (j % k) 0):=by
     rw [get_flatK _ _ _ _ (by simpa using hj)]
     have:j % k<(D (l.toArray[j / k]!)).length:=by rw [hk];exact h2
     generalize l.toArray[j / k]! = x at this |-;simp [encC',z7,this]
    refine ⟨?_,?_⟩
    . rw [hg,zI];simp only [World.cell?,hh,Option.isSome_none,zU,if_false];rw [<-hv];simp [zv,ai]
    . simp [World.frozen?,hh]
   have ad:=AnyQ.slices_SortFunc_eq L k aE zE (encC' D) (fun x=>by simp [encC',hk]) (fun x v hv=>by
    simp only [encC',zL] at hv;obtain ⟨n,_,rfl⟩:=hv;rfl) cf hO g #[] m.b 0 (m.cap - 0) l.toArray w eg (fun mm os dk hs x y=>al x y _) Z ay (by simpa using hl)
   simp only [List.size_toArray] at ad;have e0:(0*m.sz)=0:=Nat.zero_mul _;rw [e0];refine ad.mono ?_;rintro e w' ⟨rfl,n,os,rfl⟩;have O:(pdqL cf l).length=l.length:=(xl1 cf hO l).1.length_eq;have a8:pdq (ltOf cf) l.toArray 0 l.length (Lib.bitLen l.length) true true=(pdqL cf l).toArray:=by simp [pdqL]
   rw [a8];have a6:(Sort.ahead w n).heap[m.b]?=some (.cells c ty (0,0)):=hh;have a5:sortWorldK (encC' D) k w m.b 0 n (pdqL cf l).toArray os=Sort.grow ((Sort.ahead w n).setRow m.b (Sort.putCells id 0 (flatK (encC' D) k (pdqL cf l).toArray) c)) os:=by
    unfold sortWorldK putRowK putRow;rw [xsC a6]
   rw [a5];have ap:Below w.heap.size w (Sort.ahead w n):=⟨rfl,rfl,rfl,zd _,fun _ _=>rfl⟩
   have aq:HR (Sort.ahead w n) A M w0.heap.size _:=hR.grow ap;have aj:BoxAt (Sort.ahead w n) A M w0.heap.size (.b 0) m ⟨ver,k,ty,l.map (encI D),false,true⟩:=by
    obtain ⟨bx,ba,az⟩:=aq.box (.b 0) m hm;have:bx=⟨ver,k,ty,l.map (encI D),false,true⟩:=by simpa [getB] using ba.symm
    rw [<-this];exact az
   obtain ⟨k1,k2,k3,k4,k5,k6⟩:=xmQ (m':=m) (bx':=⟨ver,k,ty,(pdqL cf l).map (encI D),false,true⟩) (c':=Sort.putCells id 0 (flatK (encC' D) k (pdqL cf l).toArray) c) aq Q hm (by rfl) aj V V rfl rfl rfl rfl rfl (.inl rfl) ac hsz ae rfl
    (by simp only [za,O];omega) (fun x hx=>by
     obtain ⟨y,_,rfl⟩:=zL.1 hx;simp [AV.okElem,encI,AV.cells,hk,hsz,AV.one]) (by simp [Sort.putCells,ah]) (fun i j hi hj=>by
     have hi:i<l.length:=by simpa [O] using hi
     have hj:j<k:=by rw [hsz];exact hj
     have ak:i*k+j<l.length*k:=xdP hi hj;have ai:i*k+j<c.size:=by
      rw [ah,<-hsz];exact Nat.lt_of_lt_of_le ak (Nat.mul_le_mul_right _ Y)
     rw [<-hsz];have a3:(i*k+j) / k=i:=by
      rw [Nat.mul_comm,Nat.mul_add_div am,Nat.div_eq_of_lt hj];rfl
     have a1:(i*k+j) % k=j:=by
      rw [Nat.mul_comm,Nat.mul_add_mod,Nat.mod_eq_of_lt hj]
     have hj':j<(D (pdqL cf l)[i]).length:=by rw [hk];exact hj
     have hv:(Sort.putCells id 0 (flatK (encC' D) k (pdqL cf l).toArray) c).getD (i*k+j) undef=.int .i64 ((D ((pdqL cf l)[i])).getD j 0):=by
      have hz:i*k+j<(flatK (encC' D) k (pdqL cf l).toArray).size:=by simpa [O] using ak
      simp only [Sort.putCells,zv,Array.getElem?_mapIdx,ai,Array.getElem?_eq_getElem,Option.map_some,zi,zR,zI,true_and,if_pos hz,Nat.sub_zero,id];rw [get_flatK _ _ _ _ (by simpa [O] using ak),a3,a1]
      simp [encC',O,hi,hj',z7]
     rw [hv];have e:(((pdqL cf l).map (encI D)).getD i .top).cells.getD j .top=.int .i64 ((D ((pdqL cf l)[i])).getD j 0):=by
      simp [z7,O,hi,encI,AV.cells,hj']
     rw [e];exact .int _ _)
   have ab:Below ((Sort.ahead w n).setRow m.b (Sort.putCells id 0 (flatK (encC' D) k (pdqL cf l).toArray) c)).heap.size ((Sort.ahead w n).setRow m.b (Sort.putCells id 0 (flatK (encC' D) k (pdqL cf l).toArray) c)) (Sort.grow ((Sort.ahead w n).setRow m.b (Sort.putCells id 0 (flatK (encC' D) k (pdqL cf l).toArray) c)) os):=by
    refine ⟨rfl,rfl,rfl,by simp [Sort.grow],fun i hi=>?_⟩
    show (_++os)[i]?=_;rw [Array.getElem?_append,if_pos hi]
   have aa:((Sort.ahead w n).setRow m.b (Sort.putCells id 0 (flatK (encC' D) k (pdqL cf l).toArray) c)).heap.size=w.heap.size:=by simp [World.setRow,ahead]
   refine ⟨_,A,MSet M (.b 0) m,rfl,(hB.trans (ap.mono hB.size)).trans (k4.trans (ab.mono (by rw [aa];exact hB.size))),fun _ _=>Iff.rfl,Ev.refl.step ⟨?_,fun b hb hA=>?_,fun _ _ h=>h,fun _ _ h _=>h,k2,⟨fun b hb ax=>?_,fun i m1 a4 h0=>?_⟩⟩,k1.grow ab,.tuple _ _ rfl fun i hi=>by simp at hi⟩
   . show w.heap.size<=(_++os).size;rw [Array.size_append];rw [aa];omega
   . rw [ab.block b (by rw [aa];exact hb),k3 b hb hA];rfl
   . rw [ab.block b (by rw [aa];exact hb),k5.1 b hb ax];rfl
   . exact k5.2 i m1 a4 h0
end
end Go.Sim
