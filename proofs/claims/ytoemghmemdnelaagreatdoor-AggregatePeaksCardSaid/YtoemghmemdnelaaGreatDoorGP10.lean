/- Part 10 of the proof of the law. -/
import Derived.Test.YtoemghmemdnelaaGreatDoorGP9
import Derived.Shelf.SlSortCmp.WholeK
import Derived.Shelf.SlSortCmp.Whole1
import Derived.Shelf.SlSortCmp.NoneTotal
set_option linter.unusedVariables false
set_option linter.unusedSimpArgs false
noncomputable section
namespace Go.Sim
open Go.RowKit Go.Proofs Go.Shelf Go.Sort
variable {α : Type} [Inhabited α]
def encI (ints:α→List Int) (x:α):AV:=.agg ((ints x).map (AV.int .i64))
def encC' (ints:α→List Int) (x:α):List Value:=(ints x).map (Value.int .i64)
noncomputable def pdqL (cf:α→α→Int) (l:List α):List α:=(pdq (ltOf cf) l.toArray 0 l.length (Lib.bitLen l.length) true true).toList
theorem xhC (cf:α→α→Int) (hO:SWO (ltOf cf)) (l:List α):(pdqL cf l).Perm l∧SortedIn (ltOf cf) 0 l.length (pdqL cf l).toArray:=by
 have h:=pdq_sorts (ltOf cf) hO l.toArray 0 l.length (Lib.bitLen l.length) true true (Nat.zero_le _) (by simp) (Or.inl rfl)
 obtain ⟨⟨hs,_,hp⟩,h2⟩:=h
 unfold pdqL
 have hs:(pdq (ltOf cf) l.toArray 0 l.length (Lib.bitLen l.length) true true).size=l.length:=by simpa using hs
 refine ⟨?_,h2⟩
 have e2:l.toArray.extract 0 l.length=l.toArray:=by simp
 rw [e2] at hp
 generalize pdq (ltOf cf) l.toArray 0 l.length (Lib.bitLen l.length) true true=D at hs hp ⊢
 have e1:D.extract 0 l.length=D:=by rw [←hs];exact Array.extract_size
 rw [e1] at hp
 simpa using hp
theorem xgt {w:World} {b:Nat} {f:Array Value→Array Value} {c:Array Value} {t:TypeId} {fr:Nat×Nat} (h:w.heap[b]?=some (.cells c t fr)):mapBlock w b f=w.setRow b (f c):=by
 unfold mapBlock World.setRow
 congr 1
 apply Array.ext_getElem?
 intro k
 simp only [Array.getElem?_modify]
 by_cases hk:b=k
 · subst hk
   simp only [if_true,h,Option.map_some,onCells]
 · simp [hk]
section
variable {P : Program} {ρ : Ren} {Inv : IV}
theorem xh1 (L:SlLaysF0.n6 P ρ) (k:Nat) (hk0:0<k) (aE:∀ w,(isAgg (ρ.t 24)).run P w=.ok true w) (zE:∀ w,(Go.sizeOf (ρ.t 24)).run P w=.ok k w)
  (ints:α→List Int) (hk:∀ x,(ints x).length=k) (cf:α→α→Int) (hO:SWO (ltOf cf)) (g:Nat) (hent:Enters P (ρ.f 6)) (eg:∀ args w,(callFunc g args).run P w=.ok (.enter g args) w)
  (hclo:∀ x y W,Calls P g #[.agg (encC' ints x).toArray,.agg (encC' ints y).toArray] W fun e w'=>e=.returned (.int .i64 (cf x y))∧∃ q os',w'=Sort.grow (W.drewN q) os')
  (ver ty:Nat) (hPL:isC ty=false) (l:List α) (hl:l.length<4611686018427387904) :
  GoodM P Inv (ρ.f 6) [.osl (.b 0) ver 0 l.length,.func g []] [⟨ver,k,ty,l.map (encI ints),false,true⟩] (.tuple []) [⟨ver,k,ty,(pdqL cf l).map (encI ints),false,true⟩]:=by
 refine ⟨hent,fun w0 w A M vs hI hB hR hrc=>?_⟩
 obtain ⟨v,u,rfl,h1,h2⟩:=rc2 hrc
 obtain ⟨fs,rfl,hfs,_⟩:=h2.func_inv
 have hfs:fs=#[]:=by simpa using hfs
 subst hfs
 have hgb:getBox [⟨ver,k,ty,l.map (encI ints),false,true⟩] (.b 0) ver=some ⟨ver,k,ty,l.map (encI ints),false,true⟩:=xcw (n:=0) (bx:=⟨ver,k,ty,l.map (encI ints),false,true⟩) rfl hPL
 obtain ⟨m,a,hm,hbat,hcap,rfl,ha⟩:=xb6 hR h1 hgb
 have hfit:=hbat.fits
 have hsz:=hbat.sz
 have hver:=hbat.ver
 have hty:=hbat.ty
 rw [xal hPL] at hty
 simp only [List.length_map] at hfit hsz hver hty
 by_cases hc0:m.cap=0
 · have hl0:l=[]:=List.eq_nil_of_length_eq_zero (by omega)
   subst hl0
   have hpd:pdqL cf ([]:List α)=[]:=List.eq_nil_of_length_eq_zero (xhC cf hO []).1.length_eq
   rw [hpd]
   refine (AnyF.slices_SortFunc_none { L with } a m.cap (.func (.func g) #[] #[]) w).mono ?_
   rintro e w' ⟨rfl,rfl⟩
   exact ⟨_,A,M,rfl,hB,fun _ _=>Iff.rfl,Ev.refl,hR,.tuple _ _ rfl fun i hi=>by simp at hi⟩
 · have hcp:0<m.cap:=by omega
   obtain ⟨c,hh,hcs,hcr⟩:=hbat.plainCells hPL hcp
   obtain rfl:=ha hcp
   have hlt:=hbat.lt hcp
   have hlow:=hbat.low hcp
   have hcell:∀ i j,i<l.length→j<k→c.getD (i*k+j) undef=.int .i64 ((ints (l.toArray[i]!)).getD j 0):=fun i j hi hj=>by
    have h:=hcr i j (by simpa using hi) (by rw [←hsz];exact hj)
    rw [←hsz] at h
    have hj':j<(ints l[i]).length:=by rw [hk];exact hj
    have e:(((l.map (encI ints)).getD i .top).cells.getD j .top)=.int .i64 ((ints (l.toArray[i]!)).getD j 0):=by
     simp [List.getD_eq_getElem?_getD,hi,encI,AV.cells,hj']
    rw [e] at h
    exact h.int_inv
   have hidx:∀ t n,t<n*k→t / k<n∧t % k<k∧t / k*k+t % k=t:=fun t n h=>by
    refine ⟨Nat.div_lt_of_lt_mul (by rwa [Nat.mul_comm]),Nat.mod_lt _ hk0,?_⟩
    rw [Nat.mul_comm];exact Nat.div_add_mod t k
   have hHolds:HoldsK (encC' ints) k w m.b 0 l.toArray:=by
    intro j hj
    have hj:j<l.length*k:=by simpa using hj
    obtain ⟨h1,h2,h3⟩:=hidx j l.length hj
    have hjc:j<c.size:=by
     rw [hcs,←hsz];exact Nat.lt_of_lt_of_le hj (Nat.mul_le_mul_right _ hfit)
    have hv:=hcell (j / k) (j % k) h1 h2
    rw [h3] at hv
    have hg:(flatK (encC' ints) k l.toArray)[j]! = .int .i64 ((ints (l.toArray[j / k]!)).getD (j % k) 0):=by
     rw [get_flatK _ _ _ _ (by simpa using hj)]
     have:j % k<(ints (l.toArray[j / k]!)).length:=by rw [hk];exact h2
     generalize l.toArray[j / k]! = x at this ⊢
     simp [encC',List.getD_eq_getElem?_getD,this]
    refine ⟨?_,?_⟩
    · rw [hg,Nat.zero_add]
      simp only [World.cell?,hh,Option.isSome_none,Bool.false_eq_true,if_false]
      rw [←hv]
      simp [Array.getD_eq_getD_getElem?,hjc]
    · simp [World.frozen?,hh]
   have hcon:=AnyQ.slices_SortFunc_eq L k aE zE (encC' ints) (fun x=>by simp [encC',hk]) (fun x v hv=>by
    simp only [encC',List.mem_map] at hv
    obtain ⟨n,_,rfl⟩:=hv
    rfl) cf hO g #[] m.b 0 (m.cap - 0) l.toArray w eg (fun mm os dk hs x y=>hclo x y _) hHolds hlt (by simpa using hl)
   simp only [List.size_toArray] at hcon
   have e0:(0*m.sz)=0:=Nat.zero_mul _
   rw [e0]
   refine hcon.mono ?_
   rintro e w' ⟨rfl,n,os,rfl⟩
   have hpl:(pdqL cf l).length=l.length:=(xhC cf hO l).1.length_eq
   have hpa:pdq (ltOf cf) l.toArray 0 l.length (Lib.bitLen l.length) true true=(pdqL cf l).toArray:=by simp [pdqL]
   rw [hpa]
   have hha:(Sort.ahead w n).heap[m.b]?=some (.cells c ty (0,0)):=hh
   have hmb:sortWorldK (encC' ints) k w m.b 0 n (pdqL cf l).toArray os=Sort.grow ((Sort.ahead w n).setRow m.b (Sort.putCells id 0 (flatK (encC' ints) k (pdqL cf l).toArray) c)) os:=by
    unfold sortWorldK putRowK putRow
    rw [xgt hha]
   rw [hmb]
   have hba:Below w.heap.size w (Sort.ahead w n):=⟨rfl,rfl,rfl,Nat.le_refl _,fun _ _=>rfl⟩
   have hR1:HR (Sort.ahead w n) A M w0.heap.size _:=hR.grow hba
   have hbat1:BoxAt (Sort.ahead w n) A M w0.heap.size (.b 0) m ⟨ver,k,ty,l.map (encI ints),false,true⟩:=by
    obtain ⟨bx,hb1,hb2⟩:=hR1.box (.b 0) m hm
    have:bx=⟨ver,k,ty,l.map (encI ints),false,true⟩:=by simpa [getB] using hb1.symm
    rw [←this];exact hb2
   obtain ⟨k1,k2,k3,k4,k5,k6⟩:=xcF (m':=m) (bx':=⟨ver,k,ty,(pdqL cf l).map (encI ints),false,true⟩) (c':=Sort.putCells id 0 (flatK (encC' ints) k (pdqL cf l).toArray) c) hR1 hcp hm (by rfl) hbat1 hPL hPL rfl rfl rfl rfl rfl (.inl rfl) hver hsz hty rfl
    (by simp only [List.length_map,hpl];omega) (fun x hx=>by
     obtain ⟨y,_,rfl⟩:=List.mem_map.1 hx
     simp [AV.okElem,encI,AV.cells,hk,hsz,AV.one]) (by simp [Sort.putCells,hcs]) (fun i j hi hj=>by
     have hi:i<l.length:=by simpa [hpl] using hi
     have hj:j<k:=by rw [hsz];exact hj
     have hik:i*k+j<l.length*k:=xaD hi hj
     have hjc:i*k+j<c.size:=by
      rw [hcs,←hsz];exact Nat.lt_of_lt_of_le hik (Nat.mul_le_mul_right _ hfit)
     rw [←hsz]
     have hd1:(i*k+j) / k=i:=by
      rw [Nat.mul_comm,Nat.mul_add_div hk0,Nat.div_eq_of_lt hj];rfl
     have hd2:(i*k+j) % k=j:=by
      rw [Nat.mul_comm,Nat.mul_add_mod,Nat.mod_eq_of_lt hj]
     have hj':j<(ints (pdqL cf l)[i]).length:=by rw [hk];exact hj
     have hv:(Sort.putCells id 0 (flatK (encC' ints) k (pdqL cf l).toArray) c).getD (i*k+j) undef=.int .i64 ((ints ((pdqL cf l)[i])).getD j 0):=by
      have hz:i*k+j<(flatK (encC' ints) k (pdqL cf l).toArray).size:=by simpa [hpl] using hik
      simp only [Sort.putCells,Array.getD_eq_getD_getElem?,Array.getElem?_mapIdx,hjc,Array.getElem?_eq_getElem,Option.map_some,Option.getD_some,Nat.zero_le,Nat.zero_add,true_and,if_pos hz,Nat.sub_zero,id]
      rw [get_flatK _ _ _ _ (by simpa [hpl] using hik),hd1,hd2]
      simp [encC',hpl,hi,hj',List.getD_eq_getElem?_getD]
     rw [hv]
     have e:(((pdqL cf l).map (encI ints)).getD i .top).cells.getD j .top=.int .i64 ((ints ((pdqL cf l)[i])).getD j 0):=by
      simp [List.getD_eq_getElem?_getD,hpl,hi,encI,AV.cells,hj']
     rw [e]
     exact .int _ _)
   have hbg:Below ((Sort.ahead w n).setRow m.b (Sort.putCells id 0 (flatK (encC' ints) k (pdqL cf l).toArray) c)).heap.size ((Sort.ahead w n).setRow m.b (Sort.putCells id 0 (flatK (encC' ints) k (pdqL cf l).toArray) c)) (Sort.grow ((Sort.ahead w n).setRow m.b (Sort.putCells id 0 (flatK (encC' ints) k (pdqL cf l).toArray) c)) os):=by
    refine ⟨rfl,rfl,rfl,by simp [Sort.grow],fun i hi=>?_⟩
    show (_++os)[i]?=_
    rw [Array.getElem?_append,if_pos hi]
   have hs0:((Sort.ahead w n).setRow m.b (Sort.putCells id 0 (flatK (encC' ints) k (pdqL cf l).toArray) c)).heap.size=w.heap.size:=by simp [World.setRow,ahead]
   refine ⟨_,A,MSet M (.b 0) m,rfl,(hB.trans (hba.mono hB.size)).trans (k4.trans (hbg.mono (by rw [hs0];exact hB.size))),fun _ _=>Iff.rfl,Ev.refl.step ⟨?_,fun b hb hA=>?_,fun _ _ h=>h,fun _ _ h _=>h,k2,⟨fun b hb hno=>?_,fun i m1 hm1 h0=>?_⟩⟩,k1.grow hbg,.tuple _ _ rfl fun i hi=>by simp at hi⟩
   · show w.heap.size≤(_++os).size
     rw [Array.size_append];rw [hs0];omega
   · rw [hbg.block b (by rw [hs0];exact hb),k3 b hb hA];rfl
   · rw [hbg.block b (by rw [hs0];exact hb),k5.1 b hb hno];rfl
   · exact k5.2 i m1 hm1 h0
end
end Go.Sim
end
