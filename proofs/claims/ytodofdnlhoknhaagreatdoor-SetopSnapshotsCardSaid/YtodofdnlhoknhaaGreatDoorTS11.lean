/- Part 11. -/
import Derived.Test.YtodofdnlhoknhaaGreatDoorTS10
import Derived.Shelf.SlSortCmp.WholeK
import Derived.Shelf.SlSortCmp.Whole1
import Derived.Shelf.SlSortCmp.NoneTotal
set_option linter.all false
noncomputable section
namespace Go.Sim
open Go.RowKit Go.Proofs Go.Shelf Go.Sort
variable{α:Type}[Inhabited α]
def encI(q:α->List Int)(x:α):AV:=.agg ((q x).map (AV.int .i64))
def dU(q:α->List Int)(x:α):List Value:=(q x).map (Value.int .i64)
noncomputable def pdqL(cf:α->α->Int)(l:List α):List α:=(pdq (ltOf cf) l.toArray 0 l.length (Lib.bitLen l.length) true true).toList
def CA(cf:α->α->Int)(hO:SWO (ltOf cf))(l:List α):(pdqL cf l).Perm l/\SortedIn (ltOf cf) 0 l.length (pdqL cf l).toArray:=by
 have h:=pdq_sorts (ltOf cf) hO l.toArray 0 l.length (Lib.bitLen l.length) true true (zQ _) Ψ (Or.inl rfl);obtain⟨⟨hs,_,hp⟩,h2⟩:=h;unfold pdqL;have hs:(pdq (ltOf cf) l.toArray 0 l.length (Lib.bitLen l.length) true true).size=l.length:=by simpa using hs
 refine⟨?_,h2⟩;have e2:l.toArray.extract 0 l.length=l.toArray:=by simp
 rw[e2]at hp;generalize pdq (ltOf cf) l.toArray 0 l.length (Lib.bitLen l.length) true true=D at hs hp|-;have e1:D.extract 0 l.length=D:=by rw[<-hs];exact Array.extract_size
 rw[e1]at hp;simpa using hp
def Q5(cf:α->α->Int)(hO:SWO (ltOf cf))(l:List α):(pdqL cf l).Pairwise λ x y=>¬ cf y x<0:=by obtain⟨hp,hs⟩:=CA cf hO l;have hl:(pdqL cf l).length=l.length:=hp.length_eq;rw[zB];intro i j hi hj q;have:=hs i j (zQ _) q Ω;simp only[ltOf,List.getElem!_toArray,List.getElem!_eq_getElem?_getD,ze hi,ze hj,zh,decide_eq_false_iff_not]at this;exact this
def xyx{w:World}{b:Nat}{f:Array Value->Array Value}{c:Array Value}{t:TypeId}{fr:Nat×Nat}(h:w.heap[b]?=some (.cells c t fr)):mapBlock w b f=w.setRow b (f c):=by unfold mapBlock World.setRow;congr 1;apply Array.ext_getElem?;intro k;simp only[Array.getElem?_modify];by_cases hk:b=k;subst hk;simp only[if_true,h,Option.map_some,onCells];simp[hk]
def xHS{w:World}{A:Nat->Prop}{M:Id->Option MB}{v:Value}{f:FuncId}(h:aD w A M v (.func f []))(q:Nat.beq f vpF=false):∃vs:Array Value,v=.func (.func f) #[] vs/\vs.size=([]:List AV).length:=by cases h with|func _ vs _ h hr hf=>exact⟨vs,rfl,h⟩|nmap=>exact absurd q (by decide)
section
variable{P:Program}{ρ:Ren}{Inv:IV}
def QB(L:SlLaysF0.n6 P ρ)(k:Nat)(an:0<k)(aE:∀w,(isAgg (ρ.t 24)).run P w=.ok true w)(zE:∀w,(Go.sizeOf (ρ.t 24)).run P w=.ok k w)(J:α->List Int)(hk:∀x,(J x).length=k)(cf:α->α->Int)(hO:SWO (ltOf cf))(g:Nat)(aw:Nat.beq g vpF=false)(ao:fH P (ρ.f 6))(eg:∀args w,(callFunc g args).run P w=.ok (.enter g args) w)(am:∀x y W,Calls P g #[.agg (dU J x).toArray,.agg (dU J y).toArray] W λ e w'=>e=.returned (.int .i64 (cf x y))/\∃q os',w'=Sort.grow (W.drewN q) os')(ver ty:Nat)(Y:bW ty=false)(l:List α)(hl:l.length<4611686018427387904):bG P Inv (ρ.f 6) [.osl (.b 0) ver 0 l.length,.func g []] [⟨ver,k,ty,l.map (encI J),false,true⟩] (.tuple []) [⟨ver,k,ty,(pdqL cf l).map (encI J),false,true⟩]:=by
 refine⟨ao,λ w0 w A M vs hI hB hR a2=>?_⟩;obtain⟨v,u,rfl,h1,h2⟩:=rc2 a2;obtain⟨fs,rfl,ag⟩:=xHS h2 aw;have ag:fs=#[]:=by simpa using ag
 subst ag;have a7:dW [⟨ver,k,ty,l.map (encI J),false,true⟩] (.b 0) ver=some ⟨ver,k,ty,l.map (encI J),false,true⟩:=xoQ (n:=0) (bx:=⟨ver,k,ty,l.map (encI J),false,true⟩) rfl Y;obtain⟨m,a,hm,O,hcap,rfl,ha⟩:=rm hR h1 a7;have Z:=O.fits;have hsz:=O.sz;have ad:=O.ver;have af:=O.ty;rw[lZ Y]at af;simp only[za]at Z hsz ad af;by_cases bc:m.cap=0;have au:l=[]:=zA Ω;subst au;have a0:pdqL cf ([]:List α)=[]:=zA (CA cf hO []).1.length_eq;rw[a0];refine(AnyF.slices_SortFunc_none {L with} a m.cap (.func (.func g) #[] #[]) w).mono ?_;rintro e w' ⟨rfl,rfl⟩;exact⟨_,A,M,rfl,hB,λ _ _=>Iff.rfl,Ev.refl,hR,.tuple _ _ rfl λ i hi=>by simp at hi⟩;have V:0<m.cap:=Ω
 obtain⟨c,hh,ai,a9⟩:=O.plainCells Y V;obtain rfl:=ha V;have ay:=O.lt V;have bb:=O.low V;have ah:∀i j,i<l.length->j<k->c.getD (i*k+j) undef=.int .i64 ((J (l.toArray[i]!)).getD j 0):=λ i j hi hj=>by have h:=a9 i j (by simpa using hi) (by rw[<-hsz];exact hj);(rw[<-hsz]at h;have hj':j<(J l[i]).length:=by rw[hk];exact hj);(have e:(((l.map (encI J)).getD i .top).cells.getD j .top)=.int .i64 ((J (l.toArray[i]!)).getD j 0):=by simp[z7,hi,encI,AV.cells,hj']);rw[e]at h;exact h.int_inv
 have ap:∀t n,t<n*k->t / k<n/\t % k<k/\t / k*k+t % k=t:=λ t n h=>by refine⟨Nat.div_lt_of_lt_mul (by rwa [Nat.mul_comm]),Nat.mod_lt _ an,?_⟩;rw[Nat.mul_comm];exact Nat.div_add_mod t k
 have aa:HoldsK (dU J) k w m.b 0 l.toArray:=by(intro j hj;have hj:j<l.length*k:=by simpa using hj);(obtain⟨h1,h2,h3⟩:=ap j l.length hj;have aj:j<c.size:=by rw[ai,<-hsz];exact Nat.lt_of_lt_of_le hj (Nat.mul_le_mul_right _ Z));(have hv:=ah (j / k) (j % k) h1 h2;rw[h3]at hv;have hg:(flatK (dU J) k l.toArray)[j]! =.int .i64 ((J (l.toArray[j / k]!)).getD (j % k) 0):=by rw[get_flatK _ _ _ _ (by simpa using hj)];(have:j % k<(J (l.toArray[j / k]!)).length:=by rw[hk];exact h2);generalize l.toArray[j / k]! =x at this|-;simp[dU,z7,this]);refine⟨?_,?_⟩;rw[hg,zH];simp only[World.cell?,hh,Option.isSome_none,zT,if_false];rw[<-hv];simp[zu,aj];simp[World.frozen?,hh]
 have ae:=AnyQ.slices_SortFunc_eq L k aE zE (dU J) (fun x=>by simp [dU,hk]) (fun x v hv=>by
  simp only [dU,zK] at hv;obtain ⟨n,_,rfl⟩:=hv;rfl) cf hO g #[] m.b 0 (m.cap - 0) l.toArray w eg (fun mm os dk hs x y=>am x y _) aa ay (by simpa using hl)
 simp only[List.size_toArray]at ae;have e0:(0*m.sz)=0:=Nat.zero_mul _;rw[e0];refine ae.mono ?_;rintro e w' ⟨rfl,n,os,rfl⟩;have Q:(pdqL cf l).length=l.length:=(CA cf hO l).1.length_eq;have a8:pdq (ltOf cf) l.toArray 0 l.length (Lib.bitLen l.length) true true=(pdqL cf l).toArray:=by simp[pdqL]
 rw[a8];have a6:(Sort.ahead w n).heap[m.b]?=some (.cells c ty (0,0)):=hh;have a5:sortWorldK (dU J) k w m.b 0 n (pdqL cf l).toArray os=Sort.grow ((Sort.ahead w n).setRow m.b (Sort.putCells id 0 (flatK (dU J) k (pdqL cf l).toArray) c)) os:=by unfold sortWorldK putRowK putRow;rw[xyx a6]
 rw[a5];have aq:Below w.heap.size w (Sort.ahead w n):=⟨rfl,rfl,rfl,zd _,λ _ _=>rfl⟩;have ar:HR (Sort.ahead w n) A M w0.heap.size _:=hR.grow aq;have ak:BoxAt (Sort.ahead w n) A M w0.heap.size (.b 0) m ⟨ver,k,ty,l.map (encI J),false,true⟩:=by(obtain⟨bx,ba,az⟩:=ar.box (.b 0) m hm;have:bx=⟨ver,k,ty,l.map (encI J),false,true⟩:=by simpa[getB]using ba.symm);rw[<-this];exact az
 obtain⟨k1,k2,k3,k4,k5,k6⟩:=KB (m':=m) (bx':=⟨ver,k,ty,(pdqL cf l).map (encI J),false,true⟩) (c':=Sort.putCells id 0 (flatK (dU J) k (pdqL cf l).toArray) c) ar V hm (by rfl) ak Y Y rfl rfl rfl rfl rfl (.inl rfl) ad hsz af rfl
  (by simp only [za,Q];omega) (fun x hx=>by
   obtain ⟨y,_,rfl⟩:=zK.1 hx;simp [AV.okElem,encI,AV.cells,hk,hsz,AV.one]) (by simp [Sort.putCells,ai]) (fun i j hi hj=>by
   have hi:i<l.length:=by simpa[Q]using hi
   have hj:j<k:=by rw[hsz];exact hj
   have al:i*k+j<l.length*k:=mi hi hj;have aj:i*k+j<c.size:=by
    rw[ai,<-hsz];exact Nat.lt_of_lt_of_le al (Nat.mul_le_mul_right _ Z)
   rw[<-hsz];have a3:(i*k+j) / k=i:=by
    rw[Nat.mul_comm,Nat.mul_add_div an,Nat.div_eq_of_lt hj];rfl
   have a1:(i*k+j) % k=j:=by
    rw[Nat.mul_comm,Nat.mul_add_mod,Nat.mod_eq_of_lt hj]
   have hj':j<(J (pdqL cf l)[i]).length:=by rw[hk];exact hj
   have hv:(Sort.putCells id 0 (flatK (dU J) k (pdqL cf l).toArray) c).getD (i*k+j) undef=.int .i64 ((J ((pdqL cf l)[i])).getD j 0):=by
    have hz:i*k+j<(flatK (dU J) k (pdqL cf l).toArray).size:=by simpa[Q]using al
    simp only[Sort.putCells,zu,Array.getElem?_mapIdx,aj,Array.getElem?_eq_getElem,Option.map_some,zh,zQ,zH,true_and,if_pos hz,Nat.sub_zero,id];rw[get_flatK _ _ _ _ (by simpa[Q]using al),a3,a1]
    simp[dU,Q,hi,hj',z7]
   rw[hv];have e:(((pdqL cf l).map (encI J)).getD i .top).cells.getD j .top=.int .i64 ((J ((pdqL cf l)[i])).getD j 0):=by
    simp[z7,Q,hi,encI,AV.cells,hj']
   rw [e];exact .int _ _)
 have ac:Below ((Sort.ahead w n).setRow m.b (Sort.putCells id 0 (flatK (dU J) k (pdqL cf l).toArray) c)).heap.size ((Sort.ahead w n).setRow m.b (Sort.putCells id 0 (flatK (dU J) k (pdqL cf l).toArray) c)) (Sort.grow ((Sort.ahead w n).setRow m.b (Sort.putCells id 0 (flatK (dU J) k (pdqL cf l).toArray) c)) os):=by refine⟨rfl,rfl,rfl,by simp[Sort.grow],λ i hi=>?_⟩;show (_++os)[i]?=_;rw[Array.getElem?_append,if_pos hi]
 have ab:((Sort.ahead w n).setRow m.b (Sort.putCells id 0 (flatK (dU J) k (pdqL cf l).toArray) c)).heap.size=w.heap.size:=by simp[World.setRow,ahead]
 refine⟨_,A,aV M (.b 0) m,rfl,(hB.trans (aq.mono hB.size)).trans (k4.trans (ac.mono (by rw[ab];exact hB.size))),λ _ _=>Iff.rfl,Ev.refl.step ⟨?_,λ b hb hA=>?_,λ _ _ h=>h,λ _ _ h _=>h,k2,⟨λ b hb ax=>?_,λ i m1 a4 h0=>?_⟩⟩,k1.grow ac,.tuple _ _ rfl λ i hi=>by simp at hi⟩;show w.heap.size<=(_++os).size;rw[Array.size_append];rw[ab];omega;rw[ac.block b (by rw[ab];exact hb),k3 b hb hA];rfl;rw[ac.block b (by rw[ab];exact hb),k5.1 b hb ax];rfl;exact k5.2 i m1 a4 h0
end
end Go.Sim
