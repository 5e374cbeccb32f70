/- Part 10 of the proof of the law. -/
import Derived.Test.YtodofdnlhoknhaaGreatDoorSP9
import Derived.WalkKit
import Derived.BigCall
import Derived.Lib.Strings
import Derived.Lib.Slices
import Derived.Lib.Walk
import Derived.Lib.Builder
import Derived.Lib.UnsafeStr
import Derived.Laws.Externs
import Derived.Laws.IdiomCopy
import Derived.Laws.BitsLemmas
import Derived.RegionTactic
set_option linter.defProp false
set_option linter.unusedVariables false
set_option linter.unusedSimpArgs false
set_option linter.unnecessarySimpa false
noncomputable section
namespace Go.Proofs
open Go.RowKit Go.Lib
def Tryz.lies_builder (n:Nat) (hn:1<=n):liesAt Tryz.prog Tryz.prog.depth 111 n 0 111 1=true:=by
 have hc:Tryz.prog.cellsOf 111=2:=by kernel_rfl
 have hd:Tryz.prog.depth=(2*(Tryz.prog.types.size+Made.depth)+1)+1:=rfl;generalize Tryz.prog=P at *;rw [hd];simp only [liesAt,Bool.or_eq_true];left;rw [hd];simp [rowAt,hc,hn,sameLayout]
set_option maxHeartbeats 2000000 in
set_option maxRecDepth 100000 in
def Tryz.copyCheck_used (b:Nat) (w:World) (h0:w.cell? ⟨b,0,none⟩=some (.pointer (some ⟨b,0,none⟩))) :
  Calls Tryz.prog 130 #[.pointer (some ⟨b,0,none⟩)] w fun e w'=>e=.returned (.tuple #[])/\w'=w:=by
 have hsz:(Tryz.prog.info? 111).map (·.size)=some 2:=by kernel_rfl
 obtain ⟨j,hj,_⟩:=Option.map_eq_some_iff.1 hsz;have tp:Tryz.prog.underlying 108=some (.pointer 111):=by kernel_rfl
 go_enter Tryz.func130,Tryz.ntmps130
 go_wp2
 rw [Lib.run_neq_ptr_same w _ tp hj]
 go_wp2
 go_end0
 exact ⟨rfl,rfl⟩
set_option maxHeartbeats 2000000 in
set_option maxRecDepth 100000 in
def Tryz.copyCheck_fresh (b n:Nat) (hn:1<=n) (w:World) (h0:w.cell? ⟨b,0,none⟩=some (.pointer none)) (J:w.shape? b=some (111,n*2)) (Q:w.frozen? ⟨b,0,none⟩=false) :
  Calls Tryz.prog 130 #[.pointer (some ⟨b,0,none⟩)] w fun e w'=>e=.returned (.tuple #[])/\w'=w.setCell ⟨b,0,none⟩ (.pointer (some ⟨b,0,none⟩)):=by
 have hsz:(Tryz.prog.info? 111).map (·.size)=some 2:=by kernel_rfl
 obtain ⟨j,hj,O⟩:=Option.map_eq_some_iff.1 hsz;have hc:Tryz.prog.cellsOf 111=2:=by kernel_rfl
 have tp:Tryz.prog.underlying 108=some (.pointer 111):=by kernel_rfl
 have tu:Tryz.prog.underlying 171=some .unsafePointer:=by kernel_rfl
 have q:liesAt Tryz.prog Tryz.prog.depth 111 (n*2 / Tryz.prog.cellsOf 111) 0 111 1=true:=by
  rw [hc,Nat.mul_div_cancel _ (by decide)];exact Tryz.lies_builder n hn
 have c1:=Lib.run_to_unsafe w ⟨b,0,none⟩ tp tu hj (by rw [O];decide) J (show 0<n*2 by omega)
 have c2:=Lib.run_from_unsafe w ⟨b,0,none⟩ tu tp hj J q;clear q
 go_enter Tryz.func130,Tryz.ntmps130
 go_wp2
 rw [run_callFunc_extern Tryz.func148 (by kernel_rfl) (by kernel_rfl) (by kernel_rfl) (e:=Extern.AbiNoEscape.same) (by kernel_rfl)]
 rw [Lib.run_noEscape];simp only [Result.andThen];rw [Oper.upon_value]
 go_wp2
 go_end0
 exact ⟨rfl,rfl⟩
set_option maxHeartbeats 2000000 in
set_option maxRecDepth 100000 in
def Tryz.builder_string (b g cap:Nat) (l:List UInt8) (cur:Array Value) (w:World) (hb:w.cell? ⟨b,1,none⟩=some (.slice (some ⟨g,0,none⟩) l.length cap))
  (hg:w.heap[g]?=some (.cells cur 5 (0,0))) (q:∀ j x,l[j]?=some x->w.cell? ((⟨g,0,none⟩:Addr).add j)=some (.int .u8 x.toNat)) (V:l.length<=cur.size) (hcap:cap≠0) (h0:l≠[]) (J:l.length<=9223372036854775807) :
  Calls Tryz.prog 97 #[.pointer (some ⟨b,0,none⟩)] w fun e w'=>e=.returned (.string ⟨l.toArray⟩)/\w'=w.drew.freeze ⟨g,0,none⟩ l.length:=by
 have c1:w.drew.cell? ⟨b,1,none⟩=some (.slice (some ⟨g,0,none⟩) l.length cap):=hb;have Q:Tryz.prog.underlying 155=some (.pointer 5):=by kernel_rfl
 have O:Tryz.prog.cellsOf 5=1:=by kernel_rfl
 have Y:(Builtin.unsafeSliceData_ #[109] 155 #[.slice (some ⟨g,0,none⟩) l.length cap]).run Tryz.prog w.drew=.ok (.pointer (some ⟨g,0,none⟩)) w.drew :=
  Lib.run_unsafeSliceData_row _ _ _ _ _ _ hcap
 have W:(Builtin.unsafeString_ #[155,3] 9 #[.pointer (some ⟨g,0,none⟩),.int .i64 l.length]).run Tryz.prog w.drew=.ok (.string ⟨l.toArray⟩) (w.drew.freeze ⟨g,0,none⟩ l.length) :=
  Lib.run_unsafeString_row w.drew 155 3 9 5 Q O g cur.size (by have hg':w.drew.heap[g]?=some (.cells cur 5 (0,0)):=hg;simp [World.shape?,hg']) l h0 V J q
 clear q
 go_enter Tryz.func97,Tryz.ntmps97
 go_wp2
 go_region
 all_goals (go_wp2;go_ret;exact ⟨rfl,rfl⟩)
set_option maxHeartbeats 2000000 in
set_option maxRecDepth 100000 in
def Tryz.builder_string_nil (b:Nat) (w:World) (hb:w.cell? ⟨b,1,none⟩=some (.slice none 0 0)) :
  Calls Tryz.prog 97 #[.pointer (some ⟨b,0,none⟩)] w fun e w'=>e=.returned (.string ⟨#[]⟩)/\w'=w.drew:=by
 have c1:w.drew.cell? ⟨b,1,none⟩=some (.slice none 0 0):=hb;have J:(Builtin.unsafeSliceData_ #[109] 155 #[.slice none 0 0]).run Tryz.prog w.drew=.ok (.pointer none) w.drew:=rfl;have q:=Lib.run_unsafeString_none (P:=Tryz.prog) w.drew 155 3 9 none
 go_enter Tryz.func97,Tryz.ntmps97
 go_wp2
 go_region
 all_goals (go_wp2;go_ret;exact ⟨rfl,rfl⟩)
end Go.Proofs
end
noncomputable section
namespace Go.Sim
open Go.RowKit Go.Proofs
def M.isByte:AV->Bool
 | .int .u8 n=>decide (0<=n)&&decide (n<256)
 | _=>false
def M.isBytes (xs:List AV):Bool:=xs.all M.isByte
def M.strOf (xs:List AV):List UInt8:=xs.map fun x=>UInt8.ofNat x.toInt.toNat
def xpD (s:List UInt8):M.strOf (M.byteAVs s)=s:=by
 unfold M.strOf M.byteAVs;rw [List.map_map]
 conv=>rhs;rw [<-List.map_id s]
 exact List.map_congr_left fun u _=>by simp [AV.toInt]
def xnI (s:List UInt8):M.isBytes (M.byteAVs s)=true:=by
 unfold M.isBytes M.byteAVs;rw [zI];intro x hx;obtain ⟨u,_,rfl⟩:=zK.1 hx;have:=u.toNat_lt;simp only [M.isByte,zf,zl];omega
def xon (s t:List UInt8):M.byteAVs (s++t)=M.byteAVs s++M.byteAVs t:=by simp [M.byteAVs]
def xfe (s:List UInt8):(M.byteAVs s).length=s.length:=by simp [M.byteAVs]
def xzg {x:AV} (h:M.isByte x=true):∃ u:UInt8,x=.int .u8 u.toNat:=by
 unfold M.isByte at h;split at h
 . rename_i n;simp only [zf,zl] at h;refine ⟨UInt8.ofNat n.toNat,?_⟩;have:(UInt8.ofNat n.toNat).toNat=n.toNat:=by rw [UInt8.toNat_ofNat',Nat.mod_eq_of_lt (by omega)]
   rw [this];congr 1;omega
 . simp at h
def xvm (w:World) (g n k:Nat) (h:k≠g):(w.freeze ⟨g,0,none⟩ n).heap[k]?=w.heap[k]?:=by
 unfold World.freeze;split
 . rfl
 . simp [Array.getElem?_modify,Ne.symm h]
def xws (w:World) (g n:Nat):(w.freeze ⟨g,0,none⟩ n).heap.size=w.heap.size:=by
 unfold World.freeze;split
 . rfl
 . simp
def xAD {w w':World} {A:Nat->Prop} {M:Id->Option MB} {B:Nat} {H:List Box} (hR:HR w A M B H) {id:Nat} {m:MB} {bx:Box} (J:0<m.cap) (hm:M (.b id)=some m) (hb:H[id]?=some bx) (Z:isC bx.ty=false) (ab:bx.frz=false) (V:BoxAt w A M B (.b id) m bx) (v:Nat) (hv:m.ver<v) (sz:Nat) (ty:TypeId) (Q:isC ty=false)
  (hs:w'.heap.size=w.heap.size) (hw:∀ b,b≠m.b->w'.heap[b]?=w.heap[b]?) :
  HR w' A (MSet M (.b id) ⟨m.b,v,sz,0,ty⟩) B (H.set id ⟨v,sz,ty,[],false,true⟩)/\Mv w A M w' A (MSet M (.b id) ⟨m.b,v,sz,0,ty⟩):=by
 have Y:A m.b:=(V.guard J).1 ab;have O:MExt M (MSet M (.b id) ⟨m.b,v,sz,0,ty⟩):=xm5 hm (.inr hv);have hw':∀ b,b<w.heap.size->¬ A b->w'.heap[b]?=w.heap[b]?:=fun b _ hA=>hw b fun e=>hA (e▸Y)
 have hc:∀ {p:Prop},0<(0:Nat)->p:=fun h=>absurd h (by omega)
 have q:∀ i m1,MSet M (.b id) ⟨m.b,v,sz,0,ty⟩ i=some m1->0<m1.cap->i≠.b id/\M i=some m1:=fun i m1 h1 h0=>by
  by_cases hi:i=.b id
  . subst hi;simp [MSet] at h1;subst h1;exact absurd h0 (by simp)
  . exact ⟨hi,by simpa [MSet,hi] using h1⟩
 refine ⟨⟨fun i m1 h1=>?_,fun i i' m1 m2 h1 h2 c1 c2 he=>hR.inj i i' m1 m2 (q i m1 h1 c1).2 (q i' m2 h2 c2).2 c1 c2 he,fun b hb=>by rw [hs];exact hR.lt b hb⟩,⟨by omega,hw',fun _ _ h=>h,fun _ _ h _=>h,O,⟨fun b _ hb=>hw b fun e=>hb (.b id) m hm J e.symm,fun i m1 h1 h0=>.inl ⟨i,m1,(q i m1 h1 h0).2,h0,rfl⟩⟩⟩⟩
 by_cases hi:i=.b id
 . subst hi;have:m1=⟨m.b,v,sz,0,ty⟩:=by simp [MSet] at h1;exact h1.symm
   subst this;exact ⟨⟨v,sz,ty,[],false,true⟩,by rw [xbM,zL (xcS hb)],rfl,rfl,xbO Q,zQ _,zQ _,fun x hx=>by simp at hx,hc,hc,hc,hc⟩
 . have W:M i=some m1:=by simpa [MSet,hi] using h1
   obtain ⟨aa,g1,g2⟩:=hR.box i m1 W;exact ⟨aa,by rw [xc3 hb Z Q hi];exact g1,g2.mono (fun h0=>hw _ fun e=>hi (hR.inj i (.b id) m1 m W hm h0 J e)) hw' (by omega) (fun _ _ h=>h) g2.guard O⟩
def xlz {w:World} {A:Nat->Prop} {M:Id->Option MB} {B:Nat} {H:List Box} (hR:HR w A M B H) {v:Value} {a x:AV} {ty:TypeId} {frz pm:Bool} (J:isC ty=false) (hv:Rel w A M v (.own (.b 0) 0 0 0)) (hb:H[0]?=some ⟨0,2,ty,[.agg [a,x]],frz,pm⟩) :
  ∃ m c,M (.b 0)=some m/\BoxAt w A M B (.b 0) m ⟨0,2,ty,[.agg [a,x]],frz,pm⟩/\1<=m.cap/\v=.pointer (some ⟨m.b,0,none⟩)/\w.heap[m.b]?=some (.cells c ty (0,0))/\c.size=m.cap*2/\m.sz=2 /\
   Rel w A (MP M pm) (c.getD 0 undef) a/\Rel w A (MP M pm) (c.getD 1 undef) x/\w.cell? ⟨m.b,0,none⟩=some (c.getD 0 undef)/\w.cell? ⟨m.b,1,none⟩=some (c.getD 1 undef):=by
 obtain ⟨m,hm,q,hp⟩:=xkB hR hv (xkr hb J);have hcap:1<=m.cap:=q.fits;have hsz:m.sz=2:=q.sz.symm;obtain ⟨c,h1,h2,h3⟩:=q.plainCells J (by omega)
 rw [hsz] at h2;have r0:=h3 0 0 (by simp) (by omega)
 have r1:=h3 0 1 (by simp) (by omega)
 have h1:w.heap[m.b]?=some (.cells c ty (0,0)):=h1;have e0:w.cell? ⟨m.b,0,none⟩=some (c.getD 0 undef):=by
  have:0<c.size:=by omega
  simp [World.cell?,h1,this]
 have e1:w.cell? ⟨m.b,1,none⟩=some (c.getD 1 undef):=by
  have:1<c.size:=by omega
  simp [World.cell?,h1,this]
 refine ⟨m,c,hm,q,hcap,by simpa using hp,h1,h2,hsz,by simpa [AV.cells] using r0,by simpa [AV.cells] using r1,e0,e1⟩
def xn0:List AV->List Box->Option (Bool×AV×List Box)
 | [.own (.b 0) 0 0 0],⟨0,2,ty,[.agg [.nilptr,x]],false,pm⟩::r=>match Nat.beq ty 111 with
  | true=>some (true,.tuple [],⟨0,2,ty,[.agg [.own (.b 0) 0 0 0,x]],false,false⟩::r)
  | false=>none
 | [.own (.b 0) 0 0 0],⟨0,2,ty,[.agg [.own (.b 0) 0 0 0,x]],false,pm⟩::r=>match Nat.beq ty 111 with
  | true=>some (true,.tuple [],⟨0,2,ty,[.agg [.own (.b 0) 0 0 0,x]],false,pm⟩::r)
  | false=>none
 | _,_=>none
def xwn:OmOk Tryz.prog xIE 130 xn0:=fun xs H r H' h=>by
 unfold xn0 at h;split at h
 . rename_i ty x pm rest;split at h
   case h_2=>simp at h
   rename_i J;have J:=zg J;subst J;simp only [z6,zb,true_and] at h;obtain ⟨rfl,rfl⟩:=h;refine ⟨xc2 Tryz.func130 rfl (by kernel_rfl),fun w0 w A M vs hI hB hR Q=>?_⟩
   obtain ⟨v,rfl,hv⟩:=rc1 Q;obtain ⟨m,c,hm,q,hcap,rfl,hh,O,hsz,r0,r1,e0,e1⟩:=xlz hR (by rfl) hv rfl
   have hn:c.getD 0 undef=.pointer none:=by
    revert r0;generalize c.getD 0 undef=z;intro r0;cases r0;rfl
   rw [hn] at e0;refine (Tryz.copyCheck_fresh m.b m.cap hcap w e0 (by simp [World.shape?,hh,O]) (Lib.frozen_of_heap hh 0)).mono ?_
   rintro e w' ⟨rfl,rfl⟩;rw [setCell_eq_setRow w m.b 0 c _ _ _ hh];have ab:x.one=true:=by
    have:=q.ok (.agg [.nilptr,x]) (by simp)
    simp only [AV.okElem,AV.cells,List.all_cons,zf] at this;exact this.2.2.1
   have W:(0:Nat)=m.ver:=q.ver;obtain ⟨g1,g2,g3,g4,gt,g5⟩:=xmK (m':=m) (bx':=⟨0,2,111,[.agg [.own (.b 0) 0 0 0,x]],false,false⟩) hR (by omega) hm rfl q rfl rfl rfl (c':=c.setIfInBounds 0 (.pointer (some ⟨m.b,0,none⟩))) rfl rfl rfl rfl (.inl rfl)
    W (by rw [hsz]) (by have:=q.ty;rw [xbO rfl] at this;exact this) rfl hcap (fun y hy=>by
     simp only [zv] at hy;subst hy;rw [hsz];simp [AV.okElem,AV.cells,ab,show (AV.own (.b 0) 0 0 0).one=true from rfl]) (by rw [hsz];simpa using O) (fun i j hi hj=>by
     have Y:i=0:=by simpa using hi
     subst Y;rw [hsz] at hj |-;have aa:0<c.size:=by omega
     have ac:1<c.size:=by omega
     match j,hj with
     | 0,_ =>
      have:(c.setIfInBounds 0 (.pointer (some ⟨m.b,0,none⟩))).getD (0*2+0) undef=.pointer (some ⟨m.b,0,none⟩):=by simp [aa]
      rw [this];exact .own _ (.b 0) 0 0 0 m hm (by omega) rfl (fun _=>by rw [xjp (q.nomap rfl)];simp)
     | 1,_ =>
      have:(c.setIfInBounds 0 (.pointer (some ⟨m.b,0,none⟩))).getD (0*2+1) undef=c.getD 1 undef:=by simp [Array.getElem?_setIfInBounds]
      rw [this];exact r1.unmp)
   exact ⟨_,A,_,rfl,hB.trans g4,fun _ _=>Iff.rfl,Ev.refl.step ⟨by simp [World.setRow],g3,fun _ _ h=>h,fun _ _ h _=>h,g2,gt⟩,by simpa using g1,.tuple #[] [] rfl (by simp)⟩
 . rename_i ty x pm rest;split at h
   case h_2=>simp at h
   rename_i J;have J:=zg J;subst J;simp only [z6,zb,true_and] at h;obtain ⟨rfl,rfl⟩:=h;refine ⟨xc2 Tryz.func130 rfl (by kernel_rfl),fun w0 w A M vs hI hB hR Q=>?_⟩
   obtain ⟨v,rfl,hv⟩:=rc1 Q;obtain ⟨m,c,hm,q,hcap,rfl,hh,O,hsz,r0,r1,e0,e1⟩:=xlz hR (by rfl) hv rfl
   obtain ⟨m',V,Z,hp⟩:=xkB hR r0.unmp (xkr (n:=0) (bx:=⟨0,2,111,[.agg [.own (.b 0) 0 0 0,x]],false,pm⟩) rfl rfl);rw [hm] at V;obtain rfl:=(z6 _ _).mp V;rw [hp] at e0;refine (Tryz.copyCheck_used m.b w (by simpa using e0)).mono ?_
   rintro e w' ⟨rfl,rfl⟩;exact ⟨_,A,M,rfl,hB,fun _ _=>Iff.rfl,Ev.refl,hR,.tuple #[] [] rfl (by simp)⟩
 . simp at h
def xjF:List AV->List Box->Option (Bool×AV×List Box)
 | [.own (.b 0) 0 0 0],[⟨0,2,ty,[.agg [a,.osl (.b 1) u 0 n]],false,pm⟩,⟨u',1,ty',bs,false,pm'⟩]=>match Nat.beq ty 111&&(Nat.beq ty' 5&&Nat.beq u u') with
  | true=>some ((decide (n=bs.length)&&M.isBytes bs)&&decide (bs.length≠0),.str (M.strOf bs),[⟨0,2,ty,[.agg [a,.osl (.b 1) u 0 n]],false,pm⟩,⟨u+1,1,ty',[],false,true⟩])
  | false=>none
 | [.own (.b 0) 0 0 0],⟨0,2,ty,[.agg [a,.nils]],false,pm⟩::r=>match Nat.beq ty 111 with
  | true=>some (true,.str [],⟨0,2,ty,[.agg [a,.nils]],false,pm⟩::r)
  | false=>none
 | _,_=>none
def xrm:OmOk Tryz.prog xIE 97 xjF:=fun xs H r H' h=>by
 unfold xjF at h;split at h
 . rename_i ty a u n pm u' al bs ah;split at h
   case h_2=>simp at h
   rename_i O;simp only [zf] at O;obtain ⟨h1,h2,h3⟩:=O;have h1:=zg h1;have h2:=zg h2;have h3:=zg h3;subst h1 h2 h3;simp only [z6,zb,zf,zl] at h;obtain ⟨⟨⟨rfl,ac⟩,hne⟩,rfl,rfl⟩:=h;refine ⟨xc2 Tryz.func97 rfl (by kernel_rfl),fun w0 w A MM vs hI hB hR V=>?_⟩
   obtain ⟨v,rfl,hv⟩:=rc1 V;obtain ⟨m,c,hm,Y,hcap,rfl,hh,ai,hsz,r0,r1,e0,e1⟩:=xlz hR (by rfl) hv rfl
   obtain ⟨m1,a1,ad,q,aj,ae,af⟩:=xir hR r1.unmp (xkr (n:=1) (bx:=⟨u,1,5,bs,false,ah⟩) rfl rfl);have J:0<m1.cap:=by have:=q.fits;simp only at this;omega
   have ha:=af J;subst ha;obtain ⟨c1,k1,k2,k3⟩:=q.plainCells rfl J;have Q:m1.sz=1:=q.sz.symm;have ak:5=m1.ty:=by have:=q.ty;rw [xbO rfl] at this;exact this
   rw [ae] at e1;simp only [Nat.zero_mul,Nat.sub_zero] at e1;have hl:(M.strOf bs).length=bs.length:=by simp [M.strOf]
   have W:∀ j,j<bs.length->∃ uu:UInt8,bs.getD j .top=.int .u8 uu.toNat/\(M.strOf bs)[j]?=some uu/\w.cell? ⟨m1.b,j,none⟩=some (.int .u8 uu.toNat):=fun j hj=>by
    have ag:bs.getD j .top∈bs:=xaN hj;obtain ⟨uu,hu⟩:=xzg (zI.1 ac _ ag);refine ⟨uu,hu,?_,?_⟩
    . have:bs[j]?=some (bs.getD j .top):=xor hj;simp only [M.strOf,List.getElem?_map,this,hu,Option.map_some,AV.toInt,zN,UInt8.ofNat_toNat]
    . have hr:=k3 j 0 hj (by omega)
      rw [Q,hu] at hr;simp only [Nat.mul_one,Nat.add_zero,AV.cells,List.getD_cons_zero] at hr;have:=hr.int_inv;have ab:j<c1.size:=by have:=q.fits;simp only at this;rw [k2,Q];omega
      simp only [World.cell?,k1];have e2:c1.getD j undef=c1[j]:=by simp [ab]
      rw [e2] at this;simp [ab,this]
   refine (Tryz.builder_string m.b m1.b m1.cap (M.strOf bs) c1 w (by rw [hl];exact e1) k1 (fun j x hx=>by
    have hj:j<bs.length:=by
     rcases zJ j bs.length with h'|h'
     . exact h'
     . rw [zz (by omega)] at hx;simp at hx
    obtain ⟨uu,g1,g2,g3⟩:=W j hj;rw [g2] at hx;obtain rfl:=(z6 _ _).mp hx;by_cases Z:j=0
    . subst Z;simpa [Addr.add] using g3
    . simpa [Addr.add,Z] using g3) (by rw [hl,k2,Q];have:=q.fits;simp only at this;omega) (by omega) (fun e=>hne (by rw [<-hl,e];rfl)) (by rw [hl];have h1:=q.fits;have h2:=q.capm;simp only at h1;unfold maxLen at h2;omega)).mono ?_
   rintro e w' ⟨rfl,rfl⟩;rw [hl];have aa:=q.low J;obtain ⟨g1,g2⟩:=xAD hR J ad rfl rfl rfl q (u+1) (by have:=q.ver;simp only at this;omega) 1 5 rfl (w':=w.drew.freeze ⟨m1.b,0,none⟩ bs.length) (by rw [xws];rfl) (fun b hb=>by rw [xvm _ _ _ _ hb];rfl)
   exact ⟨_,A,_,rfl,Lib.below_freeze (hB.drew) (p:=⟨m1.b,0,none⟩) aa _,fun _ _=>Iff.rfl,Ev.refl.step g2,by simpa using g1,.str _⟩
 . rename_i ty a pm rest am;split at h
   case h_2=>simp at h
   rename_i O;have O:=zg O;subst O;simp only [z6,zb,true_and] at h;obtain ⟨rfl,rfl⟩:=h;refine ⟨xc2 Tryz.func97 rfl (by kernel_rfl),fun w0 w A MM vs hI hB hR V=>?_⟩
   obtain ⟨v,rfl,hv⟩:=rc1 V;obtain ⟨m,c,hm,Y,hcap,rfl,hh,ai,hsz,r0,r1,e0,e1⟩:=xlz hR (by rfl) hv rfl
   have hn:c.getD 1 undef=.slice none 0 0:=by
    revert r1;generalize c.getD 1 undef=z;intro r1;cases r1;rfl
   rw [hn] at e1;refine (Tryz.builder_string_nil m.b w e1).mono ?_;rintro e w' ⟨rfl,rfl⟩;exact ⟨_,A,MM,rfl,hB.drew,fun _ _=>Iff.rfl,Ev.refl.step ⟨zd _,fun _ _ _=>rfl,fun _ _ h=>h,fun _ _ h _=>h,MExt.refl MM,⟨fun _ _ _=>rfl,fun i m1 h1 h0=>.inl ⟨i,m1,h1,h0,rfl⟩⟩⟩,hR.drew,.str _⟩
 . simp at h
end Go.Sim
end
noncomputable section
namespace Go.Sim
open Go.RowKit
variable {α β γ : Type}
structure Pat (α β:Type) where
 enc:β->α
 dec:α->Option β
 ok:∀ a b,dec a=some b->a=enc b
def xIJ:Pat α α:=⟨fun b=>b,some,fun a b h=>by simpa using h⟩
def pInt (k:IntKind):Pat AV Int:=⟨.int k,fun v=>match v with
 | .int k' n=>match decide (k'=k) with
  | true=>some n
  | false=>none
 | _=>none,fun v n h=>by
 split at h
 . split at h
   . rename_i hk;simp only [z6] at h;rw [of_decide_eq_true hk,h]
   . simp at h
 . simp at h⟩
def pStr:Pat AV (List UInt8):=⟨.str,fun v=>match v with
 | .str s=>some s
 | _=>none,fun v n h=>by
 split at h
 . simp only [z6] at h;rw [h]
 . simp at h⟩
def pBool:Pat AV Bool:=⟨.bool,fun v=>match v with
 | .bool s=>some s
 | _=>none,fun v n h=>by
 split at h
 . simp only [z6] at h;rw [h]
 . simp at h⟩
def xIX (sz:Nat) (q:Pat (List AV) β):Pat AV β:=⟨fun b=>.list sz (q.enc b),fun v=>match v with
 | .list z xs=>match Nat.beq z sz with
  | true=>q.dec xs
  | false=>none
 | _=>none,fun v n h=>by
 split at h
 . split at h
   . rename_i hz;rw [zg hz,q.ok _ _ h]
   . simp at h
 . simp at h⟩
def xIR (id ver off:Nat):Pat AV Nat:=⟨.osl id ver off,fun v=>match v with
 | .osl (.b i) e o n=>match Nat.beq i id&&(Nat.beq e ver&&Nat.beq o off) with
  | true=>some n
  | false=>none
 | _=>none,fun v n h=>by
 split at h
 . split at h
   . rename_i hz;simp only [zf] at hz;simp only [z6] at h;rw [zg hz.1,zg hz.2.1,zg hz.2.2,h]
   . simp at h
 . simp at h⟩
def pOslV (id off:Nat):Pat AV (Nat×Nat):=⟨fun p=>.osl id p.1 off p.2,fun v=>match v with
 | .osl (.b i) e o n=>match Nat.beq i id&&Nat.beq o off with
  | true=>some (e,n)
  | false=>none
 | _=>none,fun v n h=>by
 split at h
 . split at h
   . rename_i hz;simp only [zf] at hz;simp only [z6] at h;rw [zg hz.1,zg hz.2,<-h]
   . simp at h
 . simp at h⟩
def pOwnV (id j:Nat):Pat AV (Nat×Nat):=⟨fun p=>.own id p.1 p.2 j,fun v=>match v with
 | .own (.b a) b c d=>match Nat.beq a id&&Nat.beq d j with
  | true=>some (b,c)
  | false=>none
 | _=>none,fun v n h=>by
 split at h
 . split at h
   . rename_i hz;simp only [zf] at hz;simp only [z6] at h;rw [zg hz.1,zg hz.2,<-h]
   . simp at h
 . simp at h⟩
def xIS (id ver i j:Nat):Pat AV Unit:=⟨fun _=>.own id ver i j,fun v=>match v with
 | .own (.b a) b c d=>match Nat.beq a id&&(Nat.beq b ver&&(Nat.beq c i&&Nat.beq d j)) with
  | true=>some ()
  | false=>none
 | _=>none,fun v n h=>by
 split at h
 . split at h
   . rename_i hz;simp only [zf] at hz;rw [zg hz.1,zg hz.2.1,zg hz.2.2.1,zg hz.2.2.2]
   . simp at h
 . simp at h⟩
def pEptr (sz i j:Nat) (q:Pat (List AV) β):Pat AV β:=⟨fun b=>.eptr sz (q.enc b) i j,fun v=>match v with
 | .eptr a xs c d=>match Nat.beq a sz&&(Nat.beq c i&&Nat.beq d j) with
  | true=>q.dec xs
  | false=>none
 | _=>none,fun v n h=>by
 split at h
 . split at h
   . rename_i hz;simp only [zf] at hz;rw [zg hz.1,zg hz.2.1,zg hz.2.2,q.ok _ _ h]
   . simp at h
 . simp at h⟩
def xIT (q:Pat (List AV) β):Pat AV β:=⟨fun b=>.agg (q.enc b),fun v=>match v with
 | .agg cs=>q.dec cs
 | _=>none,fun v n h=>by
 split at h
 . rw [q.ok _ _ h]
 . simp at h⟩
def xIj (f:Nat) (q:Pat (List AV) β):Pat AV β:=⟨fun b=>.func f (q.enc b),fun v=>match v with
 | .func g cs=>match Nat.beq g f with
  | true=>q.dec cs
  | false=>none
 | _=>none,fun v n h=>by
 split at h
 . split at h
   . rename_i hz;rw [zg hz,q.ok _ _ h]
   . simp at h
 . simp at h⟩
def pNils:Pat AV Unit:=⟨fun _=>.nils,fun v=>match v with
 | .nils=>some ()
 | _=>none,fun v n h=>by
 split at h
 . rfl
 . simp at h⟩
def pNilptr:Pat AV Unit:=⟨fun _=>.nilptr,fun v=>match v with
 | .nilptr=>some ()
 | _=>none,fun v n h=>by
 split at h
 . rfl
 . simp at h⟩
def xIH:Pat (List α) Unit:=⟨fun _=>[],fun v=>match v with
 | []=>some ()
 | _=>none,fun v n h=>by
 split at h
 . rfl
 . simp at h⟩
def xIF (p:Pat α β) (q:Pat (List α) γ):Pat (List α) (β×γ):=⟨fun b=>p.enc b.1::q.enc b.2,fun v=>match v with
 | x::t=>match p.dec x with
  | some b=>match q.dec t with
   | some c=>some (b,c)
   | none=>none
  | none=>none
 | _=>none,fun v n h=>by
 split at h
 . split at h
   . rename_i hp;split at h
     . rename_i hq;cases h;rw [p.ok _ _ hp,q.ok _ _ hq]
     . simp at h
   . simp at h
 . simp at h⟩
def xIU (ver sz ty:Nat) (frz pm:Bool) (q:Pat (List AV) β):Pat Box β:=⟨fun b=>⟨ver,sz,ty,q.enc b,frz,pm⟩,fun v=>match v with
 | ⟨a,b,c,xs,f,p⟩=>match Nat.beq a ver&&(Nat.beq b sz&&(Nat.beq c ty&&((f==frz)&&(p==pm)))) with
  | true=>q.dec xs
  | false=>none,fun v n h=>by
 obtain ⟨a,b,c,xs,f,p⟩:=v;dsimp only at h;split at h
 . rename_i hz;simp only [zf,beq_iff_eq] at hz;rw [zg hz.1,zg hz.2.1,zg hz.2.2.1,hz.2.2.2.1,hz.2.2.2.2,q.ok _ _ h]
 . simp at h⟩
def pBoxV (sz ty:Nat) (frz pm:Bool) (q:Pat (List AV) β):Pat Box (Nat×β):=⟨fun b=>⟨b.1,sz,ty,q.enc b.2,frz,pm⟩,fun v=>match v with
 | ⟨a,b,c,xs,f,p⟩=>match Nat.beq b sz&&(Nat.beq c ty&&((f==frz)&&(p==pm))) with
  | true=>match q.dec xs with
   | some y=>some (a,y)
   | none=>none
  | false=>none,fun v n h=>by
 obtain ⟨a,b,c,xs,f,p⟩:=v;dsimp only at h;split at h
 . rename_i hz;simp only [zf,beq_iff_eq] at hz;split at h
   . rename_i y hy;simp only [z6] at h;rw [zg hz.1,zg hz.2.1,hz.2.2.1,hz.2.2.2,<-h,q.ok _ _ hy]
   . simp at h
 . simp at h⟩
def Sub (a b:AV):Prop:=∀ (w:World) (A:Nat->Prop) (M:Id->Option MB) (v:Value),Rel w A M v a->Rel w A M v b
def SubL (aS bs:List AV):Prop:=aS.length=bs.length/\∀ i,i<aS.length->Sub (aS.getD i .top) (bs.getD i .top)
def Sub.refl (a:AV):Sub a a:=fun _ _ _ _ h=>h
def Sub.of_eq {a b:AV} (h:a=b):Sub a b:=h▸Sub.refl a
def xCL (sz:Nat):Sub .nils (.list sz []):=fun w A M v h=>by
 cases h;exact .list0 _ _ _
def xD5 {aS bs:List AV} (h:SubL aS bs):Sub (.agg aS) (.agg bs):=fun w A M v hr=>by
 obtain ⟨vs,rfl,h1,h2⟩:=hr.agg_inv;exact .agg vs bs (h1.trans h.1) fun i hi=>h.2 i (h.1.symm▸hi) w A M _ (h2 i (h.1.symm▸hi))
def xBd {w:World} {A:Nat->Prop} {M:Id->Option MB} {vs:List Value} {aS bs:List AV} (h:SubL aS bs) (hr:RC w A M vs aS):RC w A M vs bs :=
 ⟨hr.1.trans h.1,fun i hi=>h.2 i (h.1.symm▸hi) w A M _ (hr.2 i (h.1.symm▸hi))⟩
structure SPat (β:Type) where
 enc:β->AV
 dec:AV->Option β
 ok:∀ a b,dec a=some b->Sub a (enc b)
structure SPatL (β:Type) where
 enc:β->List AV
 dec:List AV->Option β
 ok:∀ a b,dec a=some b->SubL a (enc b)
def sEq (p:Pat AV β):SPat β:=⟨p.enc,p.dec,fun a b h=>Sub.of_eq (p.ok a b h)⟩
def xIV (sz:Nat) (q:Pat (List AV) β):SPat β:=⟨fun b=>.list sz (q.enc b),fun v=>match v with
 | .nils=>q.dec []
 | .list z xs=>match Nat.beq z sz with
  | true=>q.dec xs
  | false=>none
 | _=>none,fun v n h=>by
 split at h
 . rw [<-q.ok _ _ h];exact xCL sz
 . split at h
   . rename_i hz;rw [zg hz,q.ok _ _ h];exact Sub.refl _
   . simp at h
 . simp at h⟩
def xIW (q:SPatL β):SPat β:=⟨fun b=>.agg (q.enc b),fun v=>match v with
 | .agg cs=>q.dec cs
 | _=>none,fun v n h=>by
 split at h
 . exact xD5 (q.ok _ _ h)
 . simp at h⟩
def xII:SPatL Unit:=⟨fun _=>[],fun v=>match v with
 | []=>some ()
 | _=>none,fun v n h=>by
 split at h
 . exact ⟨rfl,fun i hi=>by simp at hi⟩
 . simp at h⟩
def xIG (p:SPat β) (q:SPatL γ):SPatL (β×γ):=⟨fun b=>p.enc b.1::q.enc b.2,fun v=>match v with
 | x::t=>match p.dec x with
  | some b=>match q.dec t with
   | some c=>some (b,c)
   | none=>none
  | none=>none
 | _=>none,fun v n h=>by
 split at h
 . split at h
   . rename_i hp;split at h
     . rename_i hq;cases h;obtain ⟨h1,h2⟩:=q.ok _ _ hq;refine ⟨by simp [h1],fun i hi=>?_⟩
       cases i with
       | zero=>exact p.ok _ _ hp
       | succ i=>exact h2 i (by simpa using hi)
     . simp at h
   . simp at h
 . simp at h⟩
def ocOf (pv:SPatL β) (g:β->Bool×AV):List AV->Option (Bool×AV):=fun xs=>match pv.dec xs with
 | some b=>some (g b)
 | none=>none
def omOf (pv:SPatL β) (pb:Pat (List Box) γ) (g:β->γ->Bool×AV×List Box):List AV->List Box->Option (Bool×AV×List Box):=fun xs H=>match pv.dec xs with
 | some b=>match pb.dec H with
  | some c=>some (g b c)
  | none=>none
 | none=>none
def lpOf (live liveO:List Nat) (conv:List (Nat×Nat×TypeId)) (pv:Pat (List AV) β) (pb:Pat (List Box) γ) (g:β->γ->Bool×LR):Lp:=⟨live,liveO,conv,fun xs H=>match pv.dec xs with
 | some b=>match pb.dec H with
  | some c=>some (g b c)
  | none=>none
 | none=>none⟩
section
variable {P : Program} {Inv : IV}
def xli {n:FuncId} {pv:SPatL β} {g:β->Bool×AV} (h:∀ b r,g b=(true,r)->Good P Inv n (pv.enc b) r):OcOk P Inv n (ocOf pv g):=fun xs r e=>by
 unfold ocOf at e;split at e
 . rename_i b hb;simp only [z6] at e;obtain ⟨h1,h2⟩:=h b r e;exact ⟨h1,fun w A vs hi ha hr=>h2 w A vs hi ha (xBd (pv.ok _ _ hb) hr)⟩
 . simp at e
def xlj {n:FuncId} {pv:SPatL β} {pb:Pat (List Box) γ} {g:β->γ->Bool×AV×List Box} (h:∀ b c r H',g b c=(true,r,H')->GoodM P Inv n (pv.enc b) (pb.enc c) r H'):OmOk P Inv n (omOf pv pb g):=fun xs H r H' e=>by
 unfold omOf at e;split at e
 . rename_i b hb;split at e
   . rename_i c hc;simp only [z6] at e;rw [pb.ok _ _ hc];obtain ⟨h1,h2⟩:=h b c r H' e;exact ⟨h1,fun w0 w A M vs hi q hR hr=>h2 w0 w A M vs hi q hR (xBd (pv.ok _ _ hb) hr)⟩
   . simp at e
 . simp at e
def xAY {nt:Nat} {l:Code} {live liveO:List Nat} {conv:List (Nat×Nat×TypeId)} {pv:Pat (List AV) β} {pb:Pat (List Box) γ} {g:β->γ->Bool×LR}
  (h:∀ b c r,g b c=(true,r)->DoesL P Inv l (fun e1 s1=>e1=r.eval.1/\s1=⟨mkTs nt (liveO.zip r.eval.2.1),r.eval.2.2⟩) ⟨mkTs nt (live.zip (pv.enc b)),pb.enc c⟩):LoopOk P Inv nt l (lpOf live liveO conv pv pb g):=fun vals H r e=>by
 unfold lpOf at e;dsimp only at e;split at e
 . rename_i b hb;split at e
   . rename_i c hc;simp only [z6] at e;rw [pv.ok _ _ hb,pb.ok _ _ hc];exact h b c r e
   . simp at e
 . simp at e
end
def xdV {x:Option α} {d:α} (h:x.isSome=true):x=some (x.getD d):=by
 cases x with
 | none=>simp at h
 | some y=>rfl
end Go.Sim
end
noncomputable section
namespace Go.Sim.M
open Go.RowKit Go.Proofs
def E0:Env:=(((Env.none.with 190 xjj).with 95 xlu).withM 130 xn0).withM 97 xjF
def xFU:xHX Tryz.prog xIE E0:=(((xzn.with xqM).with xtq).withM xwn).withM xrm
end Go.Sim.M
end
noncomputable section
namespace Go.Sim
open Go.RowKit
def EncS {α:Type} (f:α->AV) (a:Option α) (b:Option AV):Prop:=∀ r,a=some r->∃ x,b=some x/\Sub x (f r)
def EncS.none {α:Type} {f:α->AV} {b:Option AV}:EncS f .none b:=fun r h=>by simp at h
def EncS.some {α:Type} {f:α->AV} {a:α} {b:AV} (h:Sub b (f a)):EncS f (Option.some a) (Option.some b):=fun r e=>by cases e;exact ⟨b,rfl,h⟩
def EncS.br {α:Type} {f:α->AV} {t:Bool} {a a':Option α} {b b':Option AV} (h1:EncS f a b) (h2:EncS f a' b'):EncS f (Sim.br t a a') (Sim.br t b b'):=by cases t<;>assumption
def Good.sub {P:Program} {Inv:IV} {f:FuncId} {args:List AV} {r r':AV} (h:Good P Inv f args r) (hs:Sub r r'):Good P Inv f args r' :=
 ⟨h.1,fun w A vs hI hA q=>(h.2 w A vs hI hA q).mono fun e w' ⟨v,he,hb,hr⟩=>⟨v,he,hb,hs w' A xH9 v hr⟩⟩
def GoodM.bump1 {P:Program} {Inv:IV} {f:FuncId} {args:List AV} {H:List Box} {v v' k sz:Nat} {ty:TypeId} {xs:List AV} {frz pm:Bool} (Q:isC ty=false) (hv:v<v')
  (h:GoodM P Inv f args H (.osl (.b 0) v 0 k) [⟨v,sz,ty,xs,frz,pm⟩]):GoodM P Inv f args H (.osl (.b 0) v' 0 k) [⟨v',sz,ty,xs,frz,pm⟩]:=by
 refine ⟨h.1,fun w0 w A M vs hI hB hR W=>(h.2 w0 w A M vs hI hB hR W).mono ?_⟩
 rintro e w' ⟨u,A',M',rfl,h1,h2,h3,h4,h5⟩;obtain ⟨m,g1,g2,g3,g4⟩:=Rel.osl_inv h5;obtain ⟨bx,q1,q2⟩:=h4.box _ m g1;have:bx=⟨v,sz,ty,xs,frz,pm⟩:=by
  have:=q1;rw [xbM] at this;simpa using this.symm
 subst this;have V:v=m.ver:=q2.ver;have O:MExt M' (MSet M' (.b 0) ⟨m.b,v',m.sz,m.cap,m.ty⟩):=xm5 g1 (.inr (by simp only;omega))
 have J:∀ id m1,MSet M' (.b 0) ⟨m.b,v',m.sz,m.cap,m.ty⟩ id=some m1->∃ m0,M' id=some m0/\m1.b=m0.b/\m1.cap=m0.cap:=fun id m1 q=>by
  by_cases hi:id=.b 0
  . subst hi;simp [MSet] at q;subst q;exact ⟨m,g1,rfl,rfl⟩
  . exact ⟨m1,by simpa [MSet,hi] using q,rfl,rfl⟩
 have hR':HR w' A' (MSet M' (.b 0) ⟨m.b,v',m.sz,m.cap,m.ty⟩) w0.heap.size [⟨v',sz,ty,xs,frz,pm⟩]:=by
  refine ⟨fun id m1 q=>?_,fun id id' m1 m2 k1 k2 c1 c2 he=>?_,h4.lt⟩
  . by_cases hi:id=.b 0
    . subst hi;have:m1=⟨m.b,v',m.sz,m.cap,m.ty⟩:=by simp [MSet] at q;exact q.symm
      subst this;have q3:=q2.mono (w':=w') (fun _=>rfl) (fun _ _ _=>rfl) (zd _) (fun _ _ h=>h) q2.guard O
      exact ⟨⟨v',sz,ty,xs,frz,pm⟩,rfl,rfl,q3.sz,q3.ty,q3.capm,q3.fits,q3.ok,q3.low,q3.lt,q3.cells,q3.guard⟩
    . have Y:M' id=some m1:=by simpa [MSet,hi] using q
      obtain ⟨bx,k1,k2⟩:=h4.box id m1 Y;have k3:getB [⟨v',sz,ty,xs,frz,pm⟩] id=some bx:=by
       rw [<-k1];exact xc3 (H:=[⟨v,sz,ty,xs,frz,pm⟩]) (n:=0) (bx:=⟨v,sz,ty,xs,frz,pm⟩) (bx':=⟨v',sz,ty,xs,frz,pm⟩) rfl Q Q hi
      exact ⟨bx,k3,k2.mono (fun _=>rfl) (fun _ _ _=>rfl) (zd _) (fun _ _ h=>h) k2.guard O⟩
  . obtain ⟨n1,a1,a2,a3⟩:=J id m1 k1;obtain ⟨n2,b1,b2,b3⟩:=J id' m2 k2;exact h4.inj id id' n1 n2 a1 b1 (by omega) (by omega) (by rw [<-a2,<-b2,he])
 refine ⟨u,A',MSet M' (.b 0) ⟨m.b,v',m.sz,m.cap,m.ty⟩,rfl,h1,h2,h3.step ⟨zd _,fun _ _ _=>rfl,fun _ _ h=>h,fun _ _ h _=>h,O,⟨fun _ _ _=>rfl,fun id m1 q h0=>?_⟩⟩,hR',?_⟩
 . obtain ⟨n1,a1,a2,a3⟩:=J id m1 q;exact .inl ⟨id,n1,a1,by omega,a2⟩
 . exact .osl u (.b 0) v' 0 k ⟨m.b,v',m.sz,m.cap,m.ty⟩ (by simp [MSet]) (zd _) g3 fun _=>g4 V
end Go.Sim
end
noncomputable section
namespace Go.Sim
open Go.RowKit Go.Proofs
noncomputable abbrev P0:Program:=Tryz.prog
section
variable {α β γ ρ σ : Type}
def qI:Pat AV Int:=pInt .i64
def qL (k:Nat):Pat AV (List AV):=xIX k xIJ
def qB {β:Type} (v s t:Nat) (q:Pat (List AV) β):Pat Box β:=xIU v s t false true q
def bF (v s t:Nat) (x:List AV):Box:=⟨v,s,t,x,false,true⟩
def uI:SPat Int:=sEq qI
def uL (k:Nat):SPat (List AV):=xIV k xIJ
def q1 {α α0:Type} (a:Pat α α0):Pat (List α) (α0×Unit):=xIF a (xIH)
def q2 {α α0 α1:Type} (a:Pat α α0) (b:Pat α α1):Pat (List α) (α0×α1×Unit):=xIF a (xIF b (xIH))
def q3 {α α0 α1 α2:Type} (a:Pat α α0) (b:Pat α α1) (c:Pat α α2):Pat (List α) (α0×α1×α2×Unit):=xIF a (xIF b (xIF c (xIH)))
def q4 {α α0 α1 α2 α3:Type} (a:Pat α α0) (b:Pat α α1) (c:Pat α α2) (d:Pat α α3):Pat (List α) (α0×α1×α2×α3×Unit):=xIF a (xIF b (xIF c (xIF d (xIH))))
def q5 {α α0 α1 α2 α3 α4:Type} (a:Pat α α0) (b:Pat α α1) (c:Pat α α2) (d:Pat α α3) (e:Pat α α4):Pat (List α) (α0×α1×α2×α3×α4×Unit):=xIF a (xIF b (xIF c (xIF d (xIF e (xIH)))))
def q6 {α α0 α1 α2 α3 α4 α5:Type} (a:Pat α α0) (b:Pat α α1) (c:Pat α α2) (d:Pat α α3) (e:Pat α α4) (f:Pat α α5):Pat (List α) (α0×α1×α2×α3×α4×α5×Unit):=xIF a (xIF b (xIF c (xIF d (xIF e (xIF f (xIH))))))
def q7 {α α0 α1 α2 α3 α4 α5 α6:Type} (a:Pat α α0) (b:Pat α α1) (c:Pat α α2) (d:Pat α α3) (e:Pat α α4) (f:Pat α α5) (g:Pat α α6):Pat (List α) (α0×α1×α2×α3×α4×α5×α6×Unit):=xIF a (xIF b (xIF c (xIF d (xIF e (xIF f (xIF g (xIH)))))))
def q8 {α α0 α1 α2 α3 α4 α5 α6 α7:Type} (a:Pat α α0) (b:Pat α α1) (c:Pat α α2) (d:Pat α α3) (e:Pat α α4) (f:Pat α α5) (g:Pat α α6) (h:Pat α α7):Pat (List α) (α0×α1×α2×α3×α4×α5×α6×α7×Unit):=xIF a (xIF b (xIF c (xIF d (xIF e (xIF f (xIF g (xIF h (xIH))))))))
def q9 {α α0 α1 α2 α3 α4 α5 α6 α7 α8:Type} (a:Pat α α0) (b:Pat α α1) (c:Pat α α2) (d:Pat α α3) (e:Pat α α4) (f:Pat α α5) (g:Pat α α6) (h:Pat α α7) (i:Pat α α8):Pat (List α) (α0×α1×α2×α3×α4×α5×α6×α7×α8×Unit):=xIF a (xIF b (xIF c (xIF d (xIF e (xIF f (xIF g (xIF h (xIF i (xIH)))))))))
def q10 {α α0 α1 α2 α3 α4 α5 α6 α7 α8 α9:Type} (a:Pat α α0) (b:Pat α α1) (c:Pat α α2) (d:Pat α α3) (e:Pat α α4) (f:Pat α α5) (g:Pat α α6) (h:Pat α α7) (i:Pat α α8) (j:Pat α α9):Pat (List α) (α0×α1×α2×α3×α4×α5×α6×α7×α8×α9×Unit):=xIF a (xIF b (xIF c (xIF d (xIF e (xIF f (xIF g (xIF h (xIF i (xIF j (xIH))))))))))
def u1 {α0:Type} (a:SPat α0):SPatL (α0×Unit):=xIG a (xII)
def u2 {α0 α1:Type} (a:SPat α0) (b:SPat α1):SPatL (α0×α1×Unit):=xIG a (xIG b (xII))
def u3 {α0 α1 α2:Type} (a:SPat α0) (b:SPat α1) (c:SPat α2):SPatL (α0×α1×α2×Unit):=xIG a (xIG b (xIG c (xII)))
def u4 {α0 α1 α2 α3:Type} (a:SPat α0) (b:SPat α1) (c:SPat α2) (d:SPat α3):SPatL (α0×α1×α2×α3×Unit):=xIG a (xIG b (xIG c (xIG d (xII))))
def u5 {α0 α1 α2 α3 α4:Type} (a:SPat α0) (b:SPat α1) (c:SPat α2) (d:SPat α3) (e:SPat α4):SPatL (α0×α1×α2×α3×α4×Unit):=xIG a (xIG b (xIG c (xIG d (xIG e (xII)))))
def u6 {α0 α1 α2 α3 α4 α5:Type} (a:SPat α0) (b:SPat α1) (c:SPat α2) (d:SPat α3) (e:SPat α4) (f:SPat α5):SPatL (α0×α1×α2×α3×α4×α5×Unit):=xIG a (xIG b (xIG c (xIG d (xIG e (xIG f (xII))))))
def u7 {α0 α1 α2 α3 α4 α5 α6:Type} (a:SPat α0) (b:SPat α1) (c:SPat α2) (d:SPat α3) (e:SPat α4) (f:SPat α5) (g:SPat α6):SPatL (α0×α1×α2×α3×α4×α5×α6×Unit):=xIG a (xIG b (xIG c (xIG d (xIG e (xIG f (xIG g (xII)))))))
def LR.okB:LR->Bool
 | .leaf e _ _=>match e with|.normal=>false|_=>true
 | .node _ a b=>a.okB&&b.okB
def LR.okB_ne:∀ {r:LR},r.okB=true->r.eval.1≠.normal
 | .leaf e _ _,h=>fun c=>by
  have c:e=.normal:=c;subst c;simp [LR.okB] at h
 | .node true a b,h=>LR.okB_ne (r:=a) (by simp only [LR.okB,zf] at h;exact h.1)
 | .node false a b,h=>LR.okB_ne (r:=b) (by simp only [LR.okB,zf] at h;exact h.2)
abbrev StT (σ ρ:Type):=σ->Option (σ⊕ρ)
def inL {σ ρ:Type} (s:σ):Option (σ⊕ρ):=some (.inl s)
def inR {σ ρ:Type} (p:ρ):Option (σ⊕ρ):=some (.inr p)
def ixI (l:List AV) (i:Int):Bool:=decide ((0:Int)<=i)&&decide (i<(↑l.length:Int))
def ixS (l:List AV) (i:Int) (s:Sh) (k:Nat):Bool:=decide (i.toNat<l.length)&&xHV s ((l.getD i.toNat .top).cells.getD k .top)
def ixT (l:List AV) (i:Int) (n:Nat) (ss:List Sh) (k:Nat):Bool:=decide (i.toNat<l.length)&&((l.getD i.toNat .top).cells.length==n&&xH1 ss (l.getD i.toNat .top).cells k)
def gC (l:List AV) (i:Int) (k:Nat):AV:=(l.getD i.toNat .top).cells.getD k .top
def rmB (n:Nat) (l:List AV) (c z:Nat):Bool:=n==l.length&&(decide ((n+c)*z<=140737488355328)&&decide (n+c<=4611686018427387904))
abbrev RT:=Exit×List AV×List Box
abbrev HL (E:Env) (nt pin:Nat) (ls:List TypeId) (lp:List (Nat×Lp)) (fn:Func):Prop:=LoOk Tryz.prog (xIE.at pin) (E.fn nt pin (lsOf ls) (xIi lp)) (fn.body.getD .skip)
abbrev FX (E:Env) (nt pin:Nat) (ls:List TypeId) (lp:List (Nat×Lp)) (fn:Func) (pv:SPatL β) (t:β->(T:Type)->T->(ρ->T)->T) (e:β->ρ->AV):Prop:=∀ b,XF Tryz.prog (E.fn nt pin (lsOf ls) (xIi lp)) fn (fn.body.getD .skip) (pv.enc b)=t b (Option AV) none fun p=>some (e b p)
abbrev FE (t:β->(T:Type)->T->(ρ->T)->T) (e:β->ρ->AV):Prop:=∀ b,Enc (e b) (t b (Option ρ) none some) (t b (Option AV) none fun p=>some (e b p))
abbrev MX (E:Env) (nt pin:Nat) (ls:List TypeId) (lp:List (Nat×Lp)) (fn:Func) (pv:SPatL β) (pb:Pat (List Box) γ) (t:β->γ->(T:Type)->T->(ρ->T)->T) (e:β->γ->ρ->AV×List Box):Prop:=∀ b c,XFM Tryz.prog (E.fn nt pin (lsOf ls) (xIi lp)) fn (fn.body.getD .skip) (pv.enc b) (pb.enc c)=t b c (Option (AV×List Box)) none fun p=>some (e b c p)
abbrev ME (t:β->γ->(T:Type)->T->(ρ->T)->T) (e:β->γ->ρ->AV×List Box):Prop:=∀ b c,Enc (e b c) (t b c (Option ρ) none some) (t b c (Option (AV×List Box)) none fun p=>some (e b c p))
abbrev TX (E:Env) (nt pin:Nat) (ls:List TypeId) (lp:List (Nat×Lp)) (fn:Func) (pv:SPatL β) (t:β->(ρ->Option AV)->Option AV) (e:β->ρ->AV):Prop:=∀ b,XF Tryz.prog (E.fn nt pin (lsOf ls) (xIi lp)) fn (fn.body.getD .skip) (pv.enc b)=t b fun p=>some (e b p)
noncomputable abbrev LX (E:Env) (nt pin:Nat) (ls:List TypeId) (lp:List (Nat×Lp)) (l:Code) (lv lo:List Nat) (cv:List (Nat×Nat×TypeId)) (pv:Pat (List AV) β) (pb:Pat (List Box) γ) (F:β->γ->(σ->Option (σ⊕ρ))×σ×(ρ->LR)) (G:β->γ->σ->(β×γ)×((σ->Option RT)->(ρ->Option RT)->Option RT)):Prop:=∀ b c s,XR Tryz.prog (E.fn nt pin (lsOf ls) (xIi lp)) lv lo cv l (pv.enc (G b c s).1.1) (pb.enc (G b c s).1.2)=(G b c s).2 (fun s=>some (encR (fun s=>(pv.enc (G b c s).1.1,pb.enc (G b c s).1.2)) (F b c).2.2 (.inl s))) fun p=>some (encR (fun s=>(pv.enc (G b c s).1.1,pb.enc (G b c s).1.2)) (F b c).2.2 (.inr p))
abbrev LE (pv:Pat (List AV) β) (pb:Pat (List Box) γ) (F:β->γ->(σ->Option (σ⊕ρ))×σ×(ρ->LR)) (G:β->γ->σ->(β×γ)×((σ->Option RT)->(ρ->Option RT)->Option RT)):Prop:=∀ b c s,Enc (encR (fun s=>(pv.enc (G b c s).1.1,pb.enc (G b c s).1.2)) (F b c).2.2) ((F b c).1 s) ((G b c s).2 (fun s=>some (encR (fun s=>(pv.enc (G b c s).1.1,pb.enc (G b c s).1.2)) (F b c).2.2 (.inl s))) fun p=>some (encR (fun s=>(pv.enc (G b c s).1.1,pb.enc (G b c s).1.2)) (F b c).2.2 (.inr p)))
def eV {f:α->β} {a:Option α} {b:Option β} (Y:Option β) (h:b=Y) (he:Enc f a Y):Enc f a b:=h▸he
abbrev LA:=List AV
def lkN {P:Program} {Inv:IV} {E:Env}:∀ c,c∈([]:List Code)->∀ lp,E.lp (xIa c)=some lp->LoopOk P Inv E.nt c lp:=fun c h=>by simp at h
def lkC {P:Program} {Inv:IV} {E:Env} {l:Code} {ls:List Code} {lp0:Lp} (hok:LoopOk P Inv E.nt l lp0) (ht:∀ c,c∈ls->∀ lp,E.lp (xIa c)=some lp->LoopOk P Inv E.nt c lp) (h:E.lp (xIa l)=some lp0:=by kernel_rfl):∀ c,c∈l::ls->∀ lp,E.lp (xIa c)=some lp->LoopOk P Inv E.nt c lp:=fun c hc lp hs=>by
 rcases zC.1 hc with rfl|hc
 . rw [h,z6] at hs;subst hs;exact hok
 . exact ht c hc lp hs
def eN {f:α->β} {b:Option β}:Enc f none b:=Enc.none
def eS {f:α->β} {a:α} {b:β} (h:b=f a):Enc f (some a) (some b):=Enc.some h
def eB {f:α->β} {t:Bool} {a a':Option α} {b b':Option β} (h1:Enc f a b) (h2:Enc f a' b'):Enc f (br t a a') (br t b b'):=Enc.br h1 h2
def fnO (pv:SPatL β) (t:β->(T:Type)->T->(ρ->T)->T) (e:β->ρ->AV) (d:ρ):List AV->Option (Bool×AV):=ocOf pv fun b=>((t b (Option ρ) none some).isSome,e b ((t b (Option ρ) none some).getD d))
def fmO (pv:SPatL β) (pb:Pat (List Box) γ) (t:β->γ->(T:Type)->T->(ρ->T)->T) (e:β->γ->ρ->AV×List Box) (d:ρ):List AV->List Box->Option (Bool×AV×List Box):=omOf pv pb fun b c=>((t b c (Option ρ) none some).isSome,e b c ((t b c (Option ρ) none some).getD d))
noncomputable def lpO (lv lo:List Nat) (cv:List (Nat×Nat×TypeId)) (pv:Pat (List AV) β) (pb:Pat (List Box) γ) (F:β->γ->(σ->Option (σ⊕ρ))×σ×(ρ->LR)) (d:ρ):Lp :=
 lpOf lv lo cv pv pb fun b c=>((Iter (F b c).1 (F b c).2.1).isSome,(F b c).2.2 ((Iter (F b c).1 (F b c).2.1).getD d))
section
variable {E : Env}
def Tot {α:Type} (e:ρ->α) (a:ρ) (x:Option α):Prop:=x=some (e a)
def eT {α:Type} {e:ρ->α} {t:Bool} {a b:ρ} {x y:Option α} (h1:Tot e a x) (h2:Tot e b y):Tot e (br t a b) (br t x y):=by cases t<;>assumption
def eU {α:Type} {e:ρ->α} {a:ρ} {x:α} (h:x=e a):Tot e a (some x):=congrArg some h
def ftO (pv:SPatL β) (f:β->ρ) (e:β->ρ->AV):List AV->Option (Bool×AV):=ocOf pv fun b=>(true,e b (f b))
def ftC (h:xHX Tryz.prog xIE E) {g:FuncId} {fn:Func} (hf:Tryz.prog.funcs[g]?=some fn) (nt pin:Nat) (ls:List TypeId) (lp:List (Nat×Lp)) {pv:SPatL β} {f:β->ρ} {e:β->ρ->AV}
  (hl:HL E nt pin ls lp fn) (t:β->(ρ->Option AV)->Option AV) (hx:TX E nt pin ls lp fn pv t e:=by intro b;kernel_rfl)
  (he:∀ b,Tot (e b) (f b) (t b fun p=>some (e b p)):=by intro b;repeat' first|apply eT|exact eU rfl)
  (hb:fn.body.isSome=true:=by exact rfl) (hn:(fn.name == "runtime.NumGoroutine")=false:=by kernel_rfl):OcOk Tryz.prog xIE g (ftO pv f e):=xli fun b r hh=>by
 obtain ⟨_,h2⟩:=Prod.mk.inj hh;subst h2;exact xlc (p:=pin) (xos xH5 (xH6 Tryz.prog _) rfl h.fn hf hb hn hl ((hx b).trans (he b)))
def lk0 {Inv:IV} {c:Code} (h:xIf c=[]:=by kernel_rfl) (hc:((xIb c).all fun d=>(E.lp (condId d)).isNone)=true:=by kernel_rfl):LoOk Tryz.prog Inv E c:=xgd h hc
def lk1 {Inv:IV} {c l:Code} {lp0:Lp} (hok:LoopOk Tryz.prog Inv E.nt l lp0) (h:xIf c=[l]:=by kernel_rfl) (he:E.lp (xIa l)=some lp0:=by kernel_rfl) (hc:((xIb c).all fun d=>(E.lp (condId d)).isNone)=true:=by kernel_rfl):LoOk Tryz.prog Inv E c:=xlg h (lkC hok lkN he) hc
structure EO where
 E:Env
 ok:xHX Tryz.prog xIE E
def EO.w (e:EO) {g:FuncId} {o:List AV->Option (Bool×AV)} (c:OcOk Tryz.prog xIE g o):EO:=⟨e.E.with g o,e.ok.with c⟩
def EO.wM (e:EO) {g:FuncId} {o:List AV->List Box->Option (Bool×AV×List Box)} (c:OmOk Tryz.prog xIE g o):EO:=⟨e.E.withM g o,e.ok.withM c⟩
def fnC (h:xHX Tryz.prog xIE E) {g:FuncId} {fn:Func} (hf:Tryz.prog.funcs[g]?=some fn) (nt pin:Nat) (ls:List TypeId) (lp:List (Nat×Lp)) {pv:SPatL β} {t:β->(T:Type)->T->(ρ->T)->T} {e:β->ρ->AV} {d:ρ}
  (hl:HL E nt pin ls lp fn) (hx:FX E nt pin ls lp fn pv t e:=by intro b;kernel_rfl)
  (he:FE t e:=by intro b;repeat' first|apply eB|exact eN|exact eS rfl)
  (hb:fn.body.isSome=true:=by exact rfl) (hn:(fn.name == "runtime.NumGoroutine")=false:=by kernel_rfl):OcOk Tryz.prog xIE g (fnO pv t e d):=xli fun b r hh=>by
 obtain ⟨h1,h2⟩:=Prod.mk.inj hh;subst h2;exact xlc (p:=pin) (xos xH5 (xH6 Tryz.prog _) rfl h.fn hf hb hn hl ((hx b).trans (he b _ (xdV h1))))
def fmC (h:xHX Tryz.prog xIE E) {g:FuncId} {fn:Func} (hf:Tryz.prog.funcs[g]?=some fn) (nt pin:Nat) (ls:List TypeId) (lp:List (Nat×Lp)) {pv:SPatL β} {pb:Pat (List Box) γ} {t:β->γ->(T:Type)->T->(ρ->T)->T} {e:β->γ->ρ->AV×List Box} {d:ρ}
  (hl:HL E nt pin ls lp fn) (hx:MX E nt pin ls lp fn pv pb t e:=by intro b c;kernel_rfl)
  (he:ME t e:=by intro b c;repeat' first|apply eB|exact eN|exact eS rfl)
  (hp:∀ c,(pb.enc c).length=pin:=by exact fun _=>rfl) (hb:fn.body.isSome=true:=by exact rfl) (hn:(fn.name == "runtime.NumGoroutine")=false:=by kernel_rfl):OmOk Tryz.prog xIE g (fmO pv pb t e d):=xlj fun b c r H' hh=>by
 obtain ⟨h1,h2⟩:=Prod.mk.inj hh;exact xnH (p:=pin) (xnG xH5 (xH6 Tryz.prog _) rfl h.fn (hp c) hf hb hn hl (((hx b c).trans (he b c _ (xdV h1))).trans (congrArg some h2)))
def lpC (h:xHX Tryz.prog xIE E) (nt pin:Nat) (ls:List TypeId) (lp:List (Nat×Lp)) {l:Code} {lv lo:List Nat} {cv:List (Nat×Nat×TypeId)} {pv:Pat (List AV) β} {pb:Pat (List Box) γ} {F:β->γ->(σ->Option (σ⊕ρ))×σ×(ρ->LR)} {d:ρ}
  (hl:LoOk Tryz.prog (xIE.at pin) (E.fn nt pin (lsOf ls) (xIi lp)) l) (G:β->γ->σ->(β×γ)×((σ->Option RT)->(ρ->Option RT)->Option RT))
  (hx:LX E nt pin ls lp l lv lo cv pv pb F G:=by intro b c s;kernel_rfl)
  (he:LE pv pb F G:=by intro b c s;repeat' first|apply eB|exact eN|exact eS rfl)
  (hM:∀ b c,(G b c (F b c).2.1).1=(b,c):=by exact fun _ _=>rfl) (ho:∀ b c r,((F b c).2.2 r).okB=true:=by exact fun _ _ _=>rfl):LoopOk Tryz.prog (xIE.at pin) nt l (lpO lv lo cv pv pb F d):=xAY fun b c r hh=>by
 obtain ⟨h1,h2⟩:=Prod.mk.inj hh;subst h2;have:=xsi xH5 (xH6 Tryz.prog _) rfl (h.fn (nt:=nt) (pin:=pin) (ls:=lsOf ls) (lp:=xIi lp)) hl (fun s=>(pv.enc (G b c s).1.1,pb.enc (G b c s).1.2)) (F b c).2.2 (fun p=>LR.okB_ne (ho b c p)) (fun s r hr=>(hx b c s).trans (he b c s r hr)) (xdV (d:=d) h1)
 dsimp only at this;rw [hM b c] at this;exact this
structure LO (pin nt:Nat) (l:Code) where
 lp:Lp
 ok:LoopOk Tryz.prog (xIE.at pin) nt l lp
noncomputable def EO.f (x:EO) {g:FuncId} {fn:Func} (hf:Tryz.prog.funcs[g]?=some fn) (nt pin:Nat) (ls:List TypeId) (lp:List (Nat×Lp))
 (hl:HL x.E nt pin ls lp fn) (pv:SPatL β) (t:β->(T:Type)->T->(ρ->T)->T) (e:β->ρ->AV) (d:ρ) (hx:FX x.E nt pin ls lp fn pv t e:=by intro b;kernel_rfl)
 (he:FE t e:=by intro b;repeat' first|apply eB|exact eN|exact eS rfl)
 (hb:fn.body.isSome=true:=by exact rfl) (hn:(fn.name == "runtime.NumGoroutine")=false:=by kernel_rfl):EO:=x.w (fnC (d:=d) x.ok hf nt pin ls lp hl hx he hb hn)
noncomputable def EO.fM (x:EO) {g:FuncId} {fn:Func} (hf:Tryz.prog.funcs[g]?=some fn) (nt pin:Nat) (ls:List TypeId) (lp:List (Nat×Lp))
 (hl:HL x.E nt pin ls lp fn) (pv:SPatL β) (pb:Pat (List Box) γ) (t:β->γ->(T:Type)->T->(ρ->T)->T) (e:β->γ->ρ->AV×List Box) (d:ρ) (hx:MX x.E nt pin ls lp fn pv pb t e:=by intro b c;kernel_rfl)
 (he:ME t e:=by intro b c;repeat' first|apply eB|exact eN|exact eS rfl)
 (hp:∀ c,(pb.enc c).length=pin:=by exact fun _=>rfl) (hb:fn.body.isSome=true:=by exact rfl) (hn:(fn.name == "runtime.NumGoroutine")=false:=by kernel_rfl):EO:=x.wM (fmC (d:=d) x.ok hf nt pin ls lp hl hx he hp hb hn)
noncomputable def EO.fT (x:EO) {g:FuncId} {fn:Func} (hf:Tryz.prog.funcs[g]?=some fn) (nt pin:Nat) (ls:List TypeId) (lp:List (Nat×Lp))
 (hl:HL x.E nt pin ls lp fn) (t:β->(ρ->Option AV)->Option AV) (pv:SPatL β) (f:β->ρ) (e:β->ρ->AV) (hx:TX x.E nt pin ls lp fn pv t e:=by intro b;kernel_rfl)
 (he:∀ b,Tot (e b) (f b) (t b fun p=>some (e b p)):=by intro b;repeat' first|apply eT|exact eU rfl)
 (hb:fn.body.isSome=true:=by exact rfl) (hn:(fn.name == "runtime.NumGoroutine")=false:=by kernel_rfl):EO:=x.w (ftC x.ok hf nt pin ls lp hl t hx he hb hn)
noncomputable def EO.l (x:EO) (nt pin:Nat) (ls:List TypeId) (lp:List (Nat×Lp)) (fn:Func) (k:Nat) (hl:LoOk Tryz.prog (xIE.at pin) (x.E.fn nt pin (lsOf ls) (xIi lp)) (xH0 fn k)) (lv lo:List Nat) (cv:List (Nat×Nat×TypeId)) (pv:Pat (List AV) β) (pb:Pat (List Box) γ) (F:β->γ->(σ->Option (σ⊕ρ))×σ×(ρ->LR)) (d:ρ)
 (G:β->γ->σ->(β×γ)×((σ->Option RT)->(ρ->Option RT)->Option RT))
 (hx:LX x.E nt pin ls lp (xH0 fn k) lv lo cv pv pb F G:=by intro b c s;kernel_rfl)
 (he:LE pv pb F G:=by intro b c s;repeat' first|apply eB|exact eN|exact eS rfl)
 (hM:∀ b c,(G b c (F b c).2.1).1=(b,c):=by exact fun _ _=>rfl) (ho:∀ b c r,((F b c).2.2 r).okB=true:=by exact fun _ _ _=>rfl):LO pin nt (xH0 fn k):=⟨lpO lv lo cv pv pb F d,lpC x.ok nt pin ls lp hl G hx he hM ho⟩
def lks {Inv:IV} {c:Code} {ls:List Code} (hl:∀ l,l∈ls->∀ lp,E.lp (xIa l)=some lp->LoopOk Tryz.prog Inv E.nt l lp) (h:xIf c=ls:=by kernel_rfl) (hc:((xIb c).all fun d=>(E.lp (condId d)).isNone)=true:=by kernel_rfl):LoOk Tryz.prog Inv E c:=xlg h hl hc
end
end
end Go.Sim
end
noncomputable section
namespace Go.Sim
def sUF:(∀ {σ ρ:Type} (s:σ),(inL s:Option (σ⊕ρ))=some (.inl s))/\(∀ {σ ρ:Type} (p:ρ),(inR p:Option (σ⊕ρ))=some (.inr p))/\(∀ (l:List AV) (i:Int),ixI l i=(decide ((0:Int)<=i)&&decide (i<(↑l.length:Int))))/\(∀ (l:List AV) (i:Int) (s:Sh) (k:Nat),ixS l i s k=(decide (i.toNat<l.length)&&xHV s ((l.getD i.toNat .top).cells.getD k .top)))/\(∀ (l:List AV) (i:Int) (n:Nat) (ss:List Sh) (k:Nat),ixT l i n ss k=(decide (i.toNat<l.length)&&((l.getD i.toNat .top).cells.length==n&&xH1 ss (l.getD i.toNat .top).cells k)))/\(∀ (l:List AV) (i:Int) (k:Nat),gC l i k=(l.getD i.toNat .top).cells.getD k .top)/\(∀ (n:Nat) (l:List AV) (c z:Nat),rmB n l c z=(n==l.length&&(decide ((n+c)*z<=140737488355328)&&decide (n+c<=4611686018427387904)))) :=
 ⟨fun _=>rfl,fun _=>rfl,fun _ _=>rfl,fun _ _ _ _=>rfl,fun _ _ _ _ _=>rfl,fun _ _ _=>rfl,fun _ _ _ _=>rfl⟩
def sBU:((∀ {α β:Type} {l:List α} (f:α->β),(l.map f).length=l.length)/\(∀ {T:Type} {a b:T},br true a b=a)/\(∀ {T:Type} {a b:T},br false a b=b)/\(∀ (h:Decidable True),@decide True h=true)/\(∀ (h:Decidable False),@decide False h=false) /\
  (∀ b:Bool,(b&&true)=b)/\(∀ b:Bool,(true&&b)=b)/\((!true)=false)/\((!false)=true)/\(∀ n:Nat,(n:Int).toNat=n)/\(∀ n:Nat,(0:Int)<=(n:Int))/\(∀ {α:Type} {a:α},(some a).isSome=true)/\(∀ {α:Type} {a b:α},(some a).getD b=a) /\
  (∀ {α:Type} [BEq α] [ReflBEq α] (a:α),(a==a)=true)/\(∀ n:Nat,0+n=n)/\(∀ n:Nat,n - 0=n))/\(∀ {σ ρ:Type} (s:σ),(inL s:Option (σ⊕ρ))=some (.inl s))/\(∀ {σ ρ:Type} (p:ρ),(inR p:Option (σ⊕ρ))=some (.inr p))/\(∀ (l:List AV) (i:Int),ixI l i=(decide ((0:Int)<=i)&&decide (i<(↑l.length:Int))))/\(∀ (l:List AV) (i:Int) (s:Sh) (k:Nat),ixS l i s k=(decide (i.toNat<l.length)&&xHV s ((l.getD i.toNat .top).cells.getD k .top)))/\(∀ (l:List AV) (i:Int) (n:Nat) (ss:List Sh) (k:Nat),ixT l i n ss k=(decide (i.toNat<l.length)&&((l.getD i.toNat .top).cells.length==n&&xH1 ss (l.getD i.toNat .top).cells k)))/\(∀ (l:List AV) (i:Int) (k:Nat),gC l i k=(l.getD i.toNat .top).cells.getD k .top)/\(∀ (n:Nat) (l:List AV) (c z:Nat),rmB n l c z=(n==l.length&&(decide ((n+c)*z<=140737488355328)&&decide (n+c<=4611686018427387904)))) :=
 ⟨⟨za,rfl,rfl,fun h=>by simp,fun h=>by simp,zS,Bool.true_and,rfl,rfl,zN,Int.natCast_nonneg,rfl,rfl,fun a=>beq_self_eq_true a,zH,Nat.sub_zero⟩,sUF⟩
def sOO:(∀ {α:Type} {l:List α},l.drop 0=l)/\(∀ {α:Type} {l:List α} {i:Nat},l.length<=i->l.take i=l)/\(∀ n:Nat,0+n=n)/\(∀ {α β:Type} {l:List α} (f:α->β),(l.map f).length=l.length)/\(∀ n:Nat,n<=n)/\(∀ (h:Decidable True),@decide True h=true)/\(∀ b:Bool,(b&&true)=b)/\(∀ {T:Type} {a b:T},br true a b=a) /\
  (∀ {α:Type} {a:α},(some a).isSome=true)/\(∀ {α:Type} {a b:α},(some a).getD b=a) :=
 ⟨zr,zi,zH,za,zd,fun h=>by simp,zS,rfl,rfl,rfl⟩
end Go.Sim
noncomputable def Go.Sim.M.xFT:Go.Sim.EO:=Go.Sim.EO.mk Go.Sim.M.E0 Go.Sim.M.xFU
end
noncomputable section
set_option maxRecDepth 100000
namespace Go.Sim.M
open Go.IntKind (i64 u64 u8)
open Go.RowKit Go.Proofs
def xbZ {T:Type} (a:List UInt8) (δ:T) (κ:Int×Nat×LA->T):T:=br (decide ((byteAVs a).length*1<=140737488355328)&&decide ((byteAVs a).length<=4611686018427387904)) (κ ((↑a.length:Int),(byteAVs a).length,byteAVs a)) δ
def xat (a:List UInt8):=xbZ a none some
def xFW:EO:=xFT.fM Tryz.func94 19 1 [] [] lk0 (u2 (sEq (xIS 0 0 0 0)) (sEq pStr)) (q1 (qB 0 2 111 (q1 (xIT (q2 pNilptr pNils))))) (fun (_,a,_) (((_,_,_),_),_) _=>xbZ a) (fun _ _ p=>(AV.tuple [AV.int .i64 p.1,.top],([⟨0,2,111,[AV.agg [AV.own 0 0 0 0,AV.osl 1 0 0 p.2.1]],false,false⟩,bF 0 1 5 p.2.2]:List Box))) (0,0,[])
def xc0 {T:Type} (a:List UInt8) (n:Nat) (b:LA) (δ:T) (κ:Int×Nat×LA->T):T:=br (n==b.length&&(decide ((n+(byteAVs a).length)*1<=140737488355328)&&decide (n+(byteAVs a).length<=4611686018427387904))) (κ ((↑a.length:Int),n+(byteAVs a).length,b++byteAVs a)) δ
def xaq (a:List UInt8) (n:Nat) (b:LA):=xc0 a n b none some
def xFX:EO:=xFW.fM Tryz.func94 19 2 [] [] lk0 (u2 (sEq (xIS 0 0 0 0)) (sEq pStr)) (q2 (xIU 0 2 111 false false (q1 (xIT (q2 (xIS 0 0 0 0) (xIR 1 0 0))))) (qB 0 1 5 xIJ)) (fun (_,a,_) (((_,n,_),_),b,_) _=>xc0 a n b) (fun _ _ p=>(AV.tuple [AV.int .i64 p.1,.top],([⟨0,2,111,[AV.agg [AV.own 0 0 0 0,AV.osl 1 1 0 p.2.1]],false,false⟩,bF 1 1 5 p.2.2]:List Box))) (0,0,[])
def xjS {T:Type} (a:List UInt8) (n:Nat) (b:LA) (δ:T) (κ:Int×Nat×LA->T):T:=br (n==b.length&&(decide ((n+(byteAVs a).length)*1<=140737488355328)&&decide (n+(byteAVs a).length<=4611686018427387904))) (κ ((↑a.length:Int),n+(byteAVs a).length,b++byteAVs a)) δ
def xyN:EO:=xFX.fM Tryz.func94 19 2 [] [] lk0 (u2 (sEq (xIS 0 0 0 0)) (sEq pStr)) (q2 (xIU 0 2 111 false false (q1 (xIT (q2 (xIS 0 0 0 0) (xIR 1 1 0))))) (qB 1 1 5 xIJ)) (fun (_,a,_) (((_,n,_),_),b,_) _=>xjS a n b) (fun _ _ p=>(AV.tuple [AV.int .i64 p.1,.top],([⟨0,2,111,[AV.agg [AV.own 0 0 0 0,AV.osl 1 2 0 p.2.1]],false,false⟩,bF 2 1 5 p.2.2]:List Box))) (0,0,[])
def xaW:Env:=xyN.E.fn 17 1 (lsOf []) (xIi [])
def xjv:xHX P0 (xIE.at 1) xaW:=xyN.ok.fn
def xi4:LoOk P0 (xIE.at xaW.pin) xaW (Tryz.f96.body.getD .skip):=xgd (by kernel_rfl)
def xep (c:Int):Int:=((c))
def xfA (c:Int):Bool:=true
def xgk {T:Type} (c:Int) (δ:T) (κ:Int->T):T:=κ (c)
def xk5 (c:Int):Pre (xfA c) (XFM P0 xaW Tryz.f96 (Tryz.f96.body.getD .skip) [AV.own (0:Id) 0 0 0,AV.int .u8 c] [{ ver:=0,sz:=2,ty:=(111:TypeId),xs:=[AV.agg [AV.nilptr,AV.nils]],frz:=false,pm:=true }]) ((.top,([⟨0,2,111,[AV.agg [AV.own 0 0 0 0,AV.osl 1 0 0 1]],false,false⟩,⟨0,1,5,[AV.int .u8 (xep c)],false,true⟩]:List Box))):=by
 have h:XFM P0 xaW Tryz.f96 (Tryz.f96.body.getD .skip) [AV.own (0:Id) 0 0 0,AV.int .u8 c] [{ ver:=0,sz:=2,ty:=(111:TypeId),xs:=[AV.agg [AV.nilptr,AV.nils]],frz:=false,pm:=true }]=xgk c none (fun (p:Int)=>some (((.top,([⟨0,2,111,[AV.agg [AV.own 0 0 0 0,AV.osl 1 0 0 1]],false,false⟩,⟨0,1,5,[AV.int .u8 p],false,true⟩]:List Box))):(AV×List Box))):=by kernel_rfl
 rw [h];unfold xep xfA xgk;repeat' (first|exact Pre.none|exact Pre.tt rfl|exact Pre.some rfl|refine Pre.l ?_|refine Pre.r ?_|refine Pre.br (f:=fun (p:Int)=>(((.top,([⟨0,2,111,[AV.agg [AV.own 0 0 0 0,AV.osl 1 0 0 1]],false,false⟩,⟨0,1,5,[AV.int .u8 p],false,true⟩]:List Box))):(AV×List Box))) ?_ ?_|refine Pre.brt (f:=fun (p:Int)=>(((.top,([⟨0,2,111,[AV.agg [AV.own 0 0 0 0,AV.osl 1 0 0 1]],false,false⟩,⟨0,1,5,[AV.int .u8 p],false,true⟩]:List Box))):(AV×List Box))) ?_ ?_)
def xk4:LA->List Box->Option (Bool×AV×List Box):=omOf (xIG (sEq (xIS 0 0 0 0)) (xIG (sEq (pInt .u8)) xII)) (xIF (xIU 0 2 (111:TypeId) false true (xIF (xIT (xIF pNilptr (xIF pNils xIH))) xIH)) xIH) fun (_,(c,_)) (((_,(_,_)),_),_)=>(true,((.top,([⟨0,2,111,[AV.agg [AV.own 0 0 0 0,AV.osl 1 0 0 1]],false,false⟩,⟨0,1,5,[AV.int .u8 (xep c)],false,true⟩]:List Box))))
def xk3:OmOk P0 xIE 96 (xk4):=xlj fun b d h f e=>by
 obtain ⟨_,⟨c,_⟩⟩:=b;obtain ⟨⟨⟨_,⟨_,_⟩⟩,_⟩,_⟩:=d;obtain ⟨g,a⟩:=Prod.mk.inj e;refine xnH (p:=xaW.pin) (xnG xH5 (xH6 P0 _) rfl xjv rfl Tryz.func96 rfl (by kernel_rfl) xi4 ((Pre.get (xk5 _) rfl).trans ?_))
 exact congrArg some a
def xFY:EO:=xyN.wM xk3
def xga {T:Type} (c:Int) (n:Nat) (a:LA) (δ:T) (κ:Nat×LA->T):T:=br (rmB n a 1 1) (κ (n+1,a++[AV.int .u8 c])) δ
def xcH (c:Int) (n:Nat) (a:LA):=xga c n a none some
def xFZ:EO:=xFY.fM Tryz.func96 17 2 [] [] lk0 (u2 (sEq (xIS 0 0 0 0)) (sEq (pInt .u8))) (q2 (xIU 0 2 111 false false (q1 (xIT (q2 (xIS 0 0 0 0) (xIR 1 0 0))))) (qB 0 1 5 xIJ)) (fun (_,c,_) (((_,n,_),_),a,_) _=>xga c n a) (fun _ _ p=>(.top,([⟨0,2,111,[AV.agg [AV.own 0 0 0 0,AV.osl 1 1 0 p.1]],false,false⟩,bF 1 1 5 p.2]:List Box))) (0,[])
def xdz {T:Type} (c:Int) (n:Nat) (a:LA) (δ:T) (κ:Nat×LA->T):T:=br (rmB n a 1 1) (κ (n+1,a++[AV.int .u8 c])) δ
def xcI (c:Int) (n:Nat) (a:LA):=xdz c n a none some
def xFx:EO:=xFZ.fM Tryz.func96 17 2 [] [] lk0 (u2 (sEq (xIS 0 0 0 0)) (sEq (pInt .u8))) (q2 (xIU 0 2 111 false false (q1 (xIT (q2 (xIS 0 0 0 0) (xIR 1 1 0))))) (qB 1 1 5 xIJ)) (fun (_,c,_) (((_,n,_),_),a,_) _=>xdz c n a) (fun _ _ p=>(.top,([⟨0,2,111,[AV.agg [AV.own 0 0 0 0,AV.osl 1 2 0 p.1]],false,false⟩,bF 2 1 5 p.2]:List Box))) (0,[])
def xfm (a b:Int):Bool:=(br (decide (a>=0)) (br (decide (a<b)) ((decide (b<=1099511627776))) ((false))) ((false)))
def xtg {T:Type} (a b:Int) (δ:T) (κ:Bool->T):T:=br (decide (a>=0)) (br (decide (a<b)) (κ (decide (b<=1099511627776))) (κ (false))) (κ (false))
def xyO:EO:=xFx.fT Tryz.func111 18 0 [] [] lk0 (fun ((a,b,_),_)=>xtg a b none) (u1 (xIW (u2 uI uI))) (fun ((a,b,_),_)=>xfm a b) (fun _ p=>(AV.bool p))
def xeb (b:Int) (a:LA):=((a.getD (0+b.toNat) .top).cells.getD 0 .top).toInt
def xif (d:Int) (c:Nat) (b a:LA):=((xaq (Lib.itoa (xeb d b)) c a).getD (0,0,[])).snd
def xie (d:Int) (c:Nat) (b a:LA):=xcI 32 (xif d c b a).fst (xif d c b a).snd
def xid (d:Int) (c:Nat) (b a:LA):=(xie d c b a).getD (0,[])
def xgm {T:Type} (k:LA) (l j:Int) (e:Nat) (i c:Int) (d:Nat) (f g:Int) (h:List UInt8) (a b:LA) (δ:T) (κl:(Int×Nat×Int×Int×List UInt8×LA×LA)->T) (κr:(Nat×Int×Int×List UInt8×LA)->T):T:=br (decide (c<i)) (br (decide (0<=c)&&decide (c<(↑e:Int))) (br (decide (0+c.toNat<a.length)&&xHV (Sh.int .i64) ((a.getD (0+c.toNat) .top).cells.getD 0 .top)) (br (decide ((-9223372036854775808)<=xeb c a)&&decide (xeb c a<=9223372036854775807)) (br ((xaq (Lib.itoa (xeb c a)) d b).isSome) (br ((xie c d a b).isSome) (κl (i64.wrap (c+1),(xid c d a b).fst,f,g,h,a,(xid c d a b).snd)) δ) δ) δ) δ) δ) (κr (d,f,g,h,b))
def xa1 (k:LA) (l e:Int) (c:Nat) (f:Int):StT (Int×Nat×Int×Int×List UInt8×LA×LA) (Nat×Int×Int×List UInt8×LA):=fun (g,d,h,i,j,b,a)=>xgm k l e c f g d h i j b a none inL inR
def xfK:=xyO.l 37 0 [] [] Tryz.f141 1 lk0 [3,5,8,9,10,21,22,23] [3,5,8,9,10] [] (q8 (xIS 0 0 0 0) (xIS 1 0 0 0) (qL 3) qI qI (xIR 2 0 0) qI qI) (q4 (xIU 0 2 111 false false (q1 (xIT (q2 (xIS 0 0 0 0) (xIR 3 0 0))))) (qB 0 3 87 (q1 (xIT (q3 qI qI pStr)))) (qB 0 1 3 xIJ) (qB 0 1 5 xIJ)) (fun (_,_,k,m,e,c,f,g,_) (((_,d,_),_),((h,i,j,_),_),b,a,_)=>(xa1 k m e c f,(g,d,h,i,j,b,a),fun p=>(.leaf (.exit 2) [AV.own 0 0 0 0,AV.own 1 0 0 0,AV.list 3 k,AV.int .i64 m,AV.int .i64 e] [⟨0,2,111,[AV.agg [AV.own 0 0 0 0,AV.osl 2 0 0 p.1]],false,false⟩,bF 0 3 87 [AV.agg [AV.int .i64 p.2.1,AV.int .i64 p.2.2.1,AV.str p.2.2.2.1]],bF 0 1 5 p.2.2.2.2]))) (0,0,0,[],[]) fun (_,_,k,m,e,c,f,_,_) _ (g,d,h,i,j,b,a)=>((((),(),k,m,e,c,f,g,()),((((),d,()),()),((h,i,j,()),()),b,a,())),xgm k m e c f g d h i j b a none)
def xic (b:LA) (e a:Int) (d:Nat) (c:LA):=Iter (xa1 b e a 3 3) (0,d,(gC b a 0).toInt,(gC b a 1).toInt,(gC b a 2).toStr,[AV.int .i64 (gC b a 0).toInt,AV.int .i64 (gC b a 1).toInt,AV.int .i64 (↑(gC b a 2).toStr.length:Int)],c)
def xfJ (d:LA) (e c:Int) (b:Nat) (a:LA):=(xic d e c b a).getD (0,0,0,[],[])
def xib (d:LA) (e c:Int) (b:Nat) (a:LA):=xaq ((xfJ d e c b a).snd.snd.snd).fst (xfJ d e c b a).fst ((xfJ d e c b a).snd.snd.snd).snd
def xia (d:LA) (e c:Int) (b:Nat) (a:LA):=((xib d e c b a).getD (0,0,[])).snd
def xgl {T:Type} (d:LA) (e b:Int) (c:Nat) (a:LA) (δ:T) (κl:(Int×Nat×LA)->T) (κr:(Nat×LA)->T):T:=br (decide (b<e)) (br (ixI d b) (br (ixT d b 3 [Sh.int .i64,Sh.int .i64,Sh.str] 0) (br ((xic d e b c a).isSome) (br ((xib d e b c a).isSome) (κl (i64.wrap (b+1),(xia d e b c a).fst,(xia d e b c a).snd)) δ) δ) δ) δ) (κr (c,a))
def xct (d:LA) (e:Int):StT (Int×Nat×LA) (Nat×LA):=fun (c,b,a)=>xgl d e c b a none inL inR
def xlM:=xyO.l 37 0 [] [(6,xfK.lp)] Tryz.f141 0 (lk1 xfK.ok) [3,8,9,10] [3] [] (q4 (xIS 0 0 0 0) (qL 3) qI qI) (q2 (xIU 0 2 111 false false (q1 (xIT (q2 (xIS 0 0 0 0) (xIR 1 0 0))))) (qB 0 1 5 xIJ)) (fun (_,d,e,c,_) (((_,b,_),_),a,_)=>(xct d e,(c,b,a),fun p=>(.leaf (.exit 0) [AV.own 0 0 0 0] [⟨0,2,111,[AV.agg [AV.own 0 0 0 0,AV.osl 1 0 0 p.1]],false,false⟩,bF 0 1 5 p.2]))) (0,[]) fun (_,d,e,_,_) _ (c,b,a)=>((((),d,e,c,()),((((),b,()),()),a,())),xgl d e c b a none)
def xce (a:LA):=((a.getD 0 .top).cells.getD 0 .top).toInt
def xko (a:LA):=xcH 32 ((xat (Lib.itoa (xce a))).getD (0,0,[])).snd.fst ((xat (Lib.itoa (xce a))).getD (0,0,[])).snd.snd
def xkn (a:LA):=(xko a).getD (0,[])
def xkm (a:LA):=Iter (xa1 a (↑a.length:Int) 0 3 3) (1,(xkn a).fst,xce a,((a.getD 0 .top).cells.getD 1 .top).toInt,((a.getD 0 .top).cells.getD 2 .top).toStr,[AV.int .i64 (xce a),AV.int .i64 ((a.getD 0 .top).cells.getD 1 .top).toInt,AV.int .i64 (↑((a.getD 0 .top).cells.getD 2 .top).toStr.length:Int)],(xkn a).snd)
def xhq (a:LA):=(xkm a).getD (0,0,0,[],[])
def xkl (a:LA):=xaq ((xhq a).snd.snd.snd).fst (xhq a).fst ((xhq a).snd.snd.snd).snd
def xkk (a:LA):=((xkl a).getD (0,0,[])).snd
def xkj (a:LA):=Iter (xct a (↑a.length:Int)) (1,(xkk a).fst,(xkk a).snd)
def xew (a:LA):=(xkj a).getD (0,[])
def xlb {T:Type} (a:LA) (δ:T) (κ:List UInt8->T):T:=br (decide (0<(↑a.length:Int))) (br (decide (0<(↑a.length:Int))) (br (decide (0<a.length)&&((a.getD 0 .top).cells.length==3&&xH1 [Sh.int .i64,Sh.int .i64,Sh.str] (a.getD 0 .top).cells 0)) (br (decide ((-9223372036854775808)<=xce a)&&decide (xce a<=9223372036854775807)) (br ((xat (Lib.itoa (xce a))).isSome) (br ((xko a).isSome) (br ((xkm a).isSome) (br ((xkl a).isSome) (br ((xkj a).isSome) (br (decide ((xew a).fst=((xew a).snd).length)&&isBytes ((xew a).snd)&&decide (((xew a).snd).length≠0)) (κ (strOf ((xew a).snd))) δ) δ) δ) δ) δ) δ) δ) δ) δ) (κ ([]))
def xh9 (a:LA):=xlb a none some
def xyP:EO:=xyO.f Tryz.func141 37 0 [] [(6,xfK.lp),(3,xlM.lp)] (lks (lkC xlM.ok (lkC xfK.ok lkN))) (u1 (uL 3)) (fun (a,_) _=>xlb a) (fun _ p=>AV.str p) []
def xfZ (b:Int) (a:LA):=((a.getD (0+b.toNat) .top).cells.getD 0 .top).toInt
def xkQ (d:Int) (c:Nat) (b a:LA):=((xaq (Lib.itoa (xfZ d b)) c a).getD (0,0,[])).snd
def xkP (d:Int) (c:Nat) (b a:LA):=xcI 32 (xkQ d c b a).fst (xkQ d c b a).snd
def xkO (d:Int) (c:Nat) (b a:LA):=(xkP d c b a).getD (0,[])
def xi0 {T:Type} (k:LA) (l j:Int) (e:Nat) (i c:Int) (d:Nat) (f g:Int) (h:List UInt8) (a b:LA) (δ:T) (κl:(Int×Nat×Int×Int×List UInt8×LA×LA)->T) (κr:(Nat×Int×Int×List UInt8×LA)->T):T:=br (decide (c<i)) (br (decide (0<=c)&&decide (c<(↑e:Int))) (br (decide (0+c.toNat<a.length)&&xHV (Sh.int .i64) ((a.getD (0+c.toNat) .top).cells.getD 0 .top)) (br (decide ((-9223372036854775808)<=xfZ c a)&&decide (xfZ c a<=9223372036854775807)) (br ((xaq (Lib.itoa (xfZ c a)) d b).isSome) (br ((xkP c d a b).isSome) (κl (i64.wrap (c+1),(xkO c d a b).fst,f,g,h,a,(xkO c d a b).snd)) δ) δ) δ) δ) δ) (κr (d,f,g,h,b))
def xbw (k:LA) (l e:Int) (c:Nat) (f:Int):StT (Int×Nat×Int×Int×List UInt8×LA×LA) (Nat×Int×Int×List UInt8×LA):=fun (g,d,h,i,j,b,a)=>xi0 k l e c f g d h i j b a none inL inR
def xhW:=xyP.l 37 0 [] [] Tryz.f62 1 lk0 [3,5,8,9,10,21,22,23] [3,5,8,9,10] [] (q8 (xIS 0 0 0 0) (xIS 1 0 0 0) (qL 3) qI qI (xIR 2 0 0) qI qI) (q4 (xIU 0 2 111 false false (q1 (xIT (q2 (xIS 0 0 0 0) (xIR 3 0 0))))) (qB 0 3 87 (q1 (xIT (q3 qI qI pStr)))) (qB 0 1 3 xIJ) (qB 0 1 5 xIJ)) (fun (_,_,k,m,e,c,f,g,_) (((_,d,_),_),((h,i,j,_),_),b,a,_)=>(xbw k m e c f,(g,d,h,i,j,b,a),fun p=>(.leaf (.exit 2) [AV.own 0 0 0 0,AV.own 1 0 0 0,AV.list 3 k,AV.int .i64 m,AV.int .i64 e] [⟨0,2,111,[AV.agg [AV.own 0 0 0 0,AV.osl 2 0 0 p.1]],false,false⟩,bF 0 3 87 [AV.agg [AV.int .i64 p.2.1,AV.int .i64 p.2.2.1,AV.str p.2.2.2.1]],bF 0 1 5 p.2.2.2.2]))) (0,0,0,[],[]) fun (_,_,k,m,e,c,f,_,_) _ (g,d,h,i,j,b,a)=>((((),(),k,m,e,c,f,g,()),((((),d,()),()),((h,i,j,()),()),b,a,())),xi0 k m e c f g d h i j b a none)
def xkN (b:LA) (e a:Int) (d:Nat) (c:LA):=Iter (xbw b e a 3 3) (0,d,(gC b a 0).toInt,(gC b a 1).toInt,(gC b a 2).toStr,[AV.int .i64 (gC b a 0).toInt,AV.int .i64 (gC b a 1).toInt,AV.int .i64 (↑(gC b a 2).toStr.length:Int)],c)
def xhV (d:LA) (e c:Int) (b:Nat) (a:LA):=(xkN d e c b a).getD (0,0,0,[],[])
def xkM (d:LA) (e c:Int) (b:Nat) (a:LA):=xaq ((xhV d e c b a).snd.snd.snd).fst (xhV d e c b a).fst ((xhV d e c b a).snd.snd.snd).snd
def xkL (d:LA) (e c:Int) (b:Nat) (a:LA):=((xkM d e c b a).getD (0,0,[])).snd
def xix {T:Type} (d:LA) (e b:Int) (c:Nat) (a:LA) (δ:T) (κl:(Int×Nat×LA)->T) (κr:(Nat×LA)->T):T:=br (decide (b<e)) (br (ixI d b) (br (ixT d b 3 [Sh.int .i64,Sh.int .i64,Sh.str] 0) (br ((xkN d e b c a).isSome) (br ((xkM d e b c a).isSome) (κl (i64.wrap (b+1),(xkL d e b c a).fst,(xkL d e b c a).snd)) δ) δ) δ) δ) (κr (c,a))
def xdC (d:LA) (e:Int):StT (Int×Nat×LA) (Nat×LA):=fun (c,b,a)=>xix d e c b a none inL inR
def xnS:=xyP.l 37 0 [] [(6,xhW.lp)] Tryz.f62 0 (lk1 xhW.ok) [3,8,9,10] [3] [] (q4 (xIS 0 0 0 0) (qL 3) qI qI) (q2 (xIU 0 2 111 false false (q1 (xIT (q2 (xIS 0 0 0 0) (xIR 1 0 0))))) (qB 0 1 5 xIJ)) (fun (_,d,e,c,_) (((_,b,_),_),a,_)=>(xdC d e,(c,b,a),fun p=>(.leaf (.exit 0) [AV.own 0 0 0 0] [⟨0,2,111,[AV.agg [AV.own 0 0 0 0,AV.osl 1 0 0 p.1]],false,false⟩,bF 0 1 5 p.2]))) (0,[]) fun (_,d,e,_,_) _ (c,b,a)=>((((),d,e,c,()),((((),b,()),()),a,())),xix d e c b a none)
def xdI (a:LA):=((a.getD 0 .top).cells.getD 0 .top).toInt
def xnq (a:LA):=xcH 32 ((xat (Lib.itoa (xdI a))).getD (0,0,[])).snd.fst ((xat (Lib.itoa (xdI a))).getD (0,0,[])).snd.snd
def xnp (a:LA):=(xnq a).getD (0,[])
def xno (a:LA):=Iter (xbw a (↑a.length:Int) 0 3 3) (1,(xnp a).fst,xdI a,((a.getD 0 .top).cells.getD 1 .top).toInt,((a.getD 0 .top).cells.getD 2 .top).toStr,[AV.int .i64 (xdI a),AV.int .i64 ((a.getD 0 .top).cells.getD 1 .top).toInt,AV.int .i64 (↑((a.getD 0 .top).cells.getD 2 .top).toStr.length:Int)],(xnp a).snd)
def xkR (a:LA):=(xno a).getD (0,0,0,[],[])
def xnn (a:LA):=xaq ((xkR a).snd.snd.snd).fst (xkR a).fst ((xkR a).snd.snd.snd).snd
def xnm (a:LA):=((xnn a).getD (0,0,[])).snd
def xnl (a:LA):=Iter (xdC a (↑a.length:Int)) (1,(xnm a).fst,(xnm a).snd)
def xgL (a:LA):=(xnl a).getD (0,[])
def xoe {T:Type} (a:LA) (δ:T) (κ:List UInt8->T):T:=br (decide (0<(↑a.length:Int))) (br (decide (0<(↑a.length:Int))) (br (decide (0<a.length)&&((a.getD 0 .top).cells.length==3&&xH1 [Sh.int .i64,Sh.int .i64,Sh.str] (a.getD 0 .top).cells 0)) (br (decide ((-9223372036854775808)<=xdI a)&&decide (xdI a<=9223372036854775807)) (br ((xat (Lib.itoa (xdI a))).isSome) (br ((xnq a).isSome) (br ((xno a).isSome) (br ((xnn a).isSome) (br ((xnl a).isSome) (br (decide ((xgL a).fst=((xgL a).snd).length)&&isBytes ((xgL a).snd)&&decide (((xgL a).snd).length≠0)) (κ (strOf ((xgL a).snd))) δ) δ) δ) δ) δ) δ) δ) δ) δ) (κ ([]))
def xau (a:LA):=xoe a none some
def xrR:EO:=xyP.f Tryz.func62 37 0 [] [(6,xhW.lp),(3,xnS.lp)] (lks (lkC xnS.ok (lkC xhW.ok lkN))) (u1 (uL 3)) (fun (a,_) _=>xoe a) (fun _ p=>AV.str p) []
def xfb (x:Int):Bool:=((x != x))
def xwm {T:Type} (x:Int) (δ:T) (κ:Bool->T):T:=κ (x != x)
def xF0:EO:=xrR.fT Tryz.func138 6 0 [] [] lk0 (fun (x,_)=>xwm x none) (u1 uI) (fun (x,_)=>xfb x) (fun _ p=>(AV.bool p))
def xco (x y:Int):Int:=(br (xfb x) (br (xfb y) ((0)) (((-1)))) (br (xfb y) ((1)) (br (decide (x<y)) (((-1))) (br (decide (x>y)) ((1)) ((0))))))
def xut {T:Type} (x y:Int) (δ:T) (κ:Int->T):T:=br (xfb x) (br (xfb y) (κ (0)) (κ ((-1)))) (br (xfb y) (κ (1)) (br (decide (x<y)) (κ ((-1))) (br (decide (x>y)) (κ (1)) (κ (0)))))
def xyQ:EO:=xF0.fT Tryz.func110 20 0 [] [] lk0 (fun (x,y,_)=>xut x y none) (u2 uI uI) (fun (x,y,_)=>xco x y) (fun _ p=>(AV.int .i64 p))
def xh5:Env:=xyQ.E.fn 18 0 (lsOf []) (xIi [])
def xu6:xHX P0 (xIE.at 0) xh5:=xyQ.ok.fn
def xr0:LoOk P0 (xIE.at xh5.pin) xh5 (Tryz.f109.body.getD .skip):=xlg (ls:=[xH0 Tryz.f109 0]) (by kernel_rfl) (fun l a lp b=>by
 simp only [zC,List.not_mem_nil,or_false] at a;rcases a with rfl
 . rw [show xh5.lp (xIa (xH0 Tryz.f109 0))=none by kernel_rfl] at b
   simp at b)
def xmT (a b c:Int):Int:=(br (a != 0) ((a)) (br (b != 0) ((b)) (br (c != 0) ((c)) ((0)))))
def xr1 (a b c:Int):Bool:=true
def xu7 {T:Type} (a b c:Int) (δ:T) (κ:Int->T):T:=br (a != 0) (κ (a)) (br (b != 0) (κ (b)) (br (c != 0) (κ (c)) (κ (0))))
def xBU (a b c:Int):Pre (xr1 a b c) (XF P0 xh5 Tryz.f109 (Tryz.f109.body.getD .skip) [AV.list 1 [AV.int .i64 a,AV.int .i64 b,AV.int .i64 c]]) (AV.int .i64 (xmT a b c)):=by
 have h:XF P0 xh5 Tryz.f109 (Tryz.f109.body.getD .skip) [AV.list 1 [AV.int .i64 a,AV.int .i64 b,AV.int .i64 c]]=xu7 a b c none (fun (p:Int)=>some ((AV.int .i64 p):AV)):=by kernel_rfl
 rw [h];unfold xmT xr1 xu7;repeat' (first|exact Pre.none|exact Pre.tt rfl|exact Pre.some rfl|refine Pre.l ?_|refine Pre.r ?_|refine Pre.br (f:=fun (p:Int)=>((AV.int .i64 p):AV)) ?_ ?_|refine Pre.brt (f:=fun (p:Int)=>((AV.int .i64 p):AV)) ?_ ?_)
def xBT:LA->Option (Bool×AV):=ocOf (xIG (xIV 1 (xIF (pInt .i64) (xIF (pInt .i64) (xIF (pInt .i64) xIH)))) xII) fun ((a,(b,(c,_))),_)=>(true,(AV.int .i64 (xmT a b c)))
def xBS:OcOk P0 xIE 109 (xBT):=xli fun e h f=>by
 obtain ⟨⟨a,⟨b,⟨c,_⟩⟩⟩,_⟩:=e;obtain ⟨g,d⟩:=Prod.mk.inj f;refine xlc (p:=xh5.pin) (xos xH5 (xH6 P0 _) rfl xu6 Tryz.func109 rfl (by kernel_rfl) xr0 ((Pre.get (xBU _ _ _) rfl).trans ?_))
 exact congrArg some d
def xF1:EO:=xyQ.w xBS
def xa6 (a b:Int) (c:List UInt8) (d e:Int) (f:List UInt8):Int:=((xmT (xco a d) (xco b e) (Lib.compareBytes c f)))
def xsS {T:Type} (a b:Int) (c:List UInt8) (d e:Int) (f:List UInt8) (δ:T) (κ:Int->T):T:=κ (xmT (xco a d) (xco b e) (Lib.compareBytes c f))
def xCS:EO:=xF1.fT Tryz.func173 22 0 [] [] lk0 (fun ((a,b,c,_),(d,e,f,_),_)=>xsS a b c d e f none) (u2 (xIW (u3 uI uI (sEq pStr))) (xIW (u3 uI uI (sEq pStr)))) (fun ((a,b,c,_),(d,e,f,_),_)=>xa6 a b c d e f) (fun _ p=>(AV.int .i64 p))
def xbE (c b:LA) (a:Int):=xa6 (gC b a 0).toInt (gC b a 1).toInt (gC b a 2).toStr (gC c a 0).toInt (gC c a 1).toInt (gC c a 2).toStr
def xbR {T:Type} (e c b:LA) (d a:Int) (δ:T) (κl:(Int)->T) (κr:(Bool×(Int)×(Unit))->T):T:=br (decide (a<d)) (br (ixI b a) (br (ixT b a 3 [Sh.int .i64,Sh.int .i64,Sh.str] 0) (br (decide (a>=c.length)) (κr (true,(1),())) (br (ixI c a) (br (ixT c a 3 [Sh.int .i64,Sh.int .i64,Sh.str] 0) (br (xbE c b a != 0) (κr (true,(xbE c b a),())) (κl (i64.wrap (a+1)))) δ) δ)) δ) δ) (κr (false,0,()))
def xaE (d e a:LA) (b:Int):StT (Int) (Bool×(Int)×(Unit)):=fun (c)=>xbR d e a b c none inL inR
def xiy:=xCS.l 39 0 [] [] Tryz.f172 0 lk0 [0,1,2,11,12,13] [0,1,6] [] (q6 (qL 3) (qL 3) (xIj 173 xIH) (qL 3) qI qI) xIH (fun (d,e,_,a,b,c,_) _=>(xaE d e a b,(c),fun p=>(.node p.1 (.leaf .ret [AV.list 3 d,AV.list 3 e,AV.int .i64 p.2.1] []) (.leaf (.exit 0) [AV.list 3 d,AV.list 3 e,.top] [])))) (false,0,()) fun (d,e,_,a,b,_,_) _ (c)=>(((d,e,(),a,b,c,()),()),xbR d e a b c none)
def xg8 {T:Type} (a b:LA) (δ:T) (κ:Int->T):T:=br ((Iter (xaE a b a (↑a.length:Int)) 0).isSome) (br (((Iter (xaE a b a (↑a.length:Int)) 0).getD (false,0,())).fst) (κ (((Iter (xaE a b a (↑a.length:Int)) 0).getD (false,0,())).snd.fst)) (br (decide ((↑a.length:Int)<(↑b.length:Int))) (κ ((-1))) (κ (0)))) δ
def xiw (a b:LA):=xg8 a b none some
def xF2:EO:=xCS.f Tryz.func172 39 0 [] [(2,xiy.lp)] (lk1 xiy.ok) (u3 (uL 3) (uL 3) (sEq (xIj (173:FuncId) xIH))) (fun (a,b,_,_) _=>xg8 a b) (fun _ p=>AV.int .i64 p) 0
def xk2 {T:Type} (a b:LA) (δ:T) (κ:Int->T):T:=br ((xiw a b).isSome) (κ ((xiw a b).getD 0)) δ
def xjE (a b:LA):=xk2 a b none some
def xF3:EO:=xF2.f Tryz.func144 8 0 [] [] lk0 (u2 (uL 3) (uL 3)) (fun (a,b,_) _=>xk2 a b) (fun _ p=>AV.int .i64 p) 0
def xjI {T:Type} (a c b d:LA) (δ:T) (κ:Int->T):T:=br ((xjE a b).isSome) (κ ((xjE a b).getD 0)) δ
def xff (c a d b:LA):=xjI c a d b none some
def xyR:EO:=xF3.f Tryz.func143 10 0 [] [] lk0 (u2 (xIW (u2 (uL 3) (uL 2))) (xIW (u2 (uL 3) (uL 2)))) (fun ((c,a,_),(d,b,_),_) _=>xjI c a d b) (fun _ p=>AV.int .i64 p) 0
def xcB (a:Nat) (j:Int):=decide (0<=i64.wrap (j - 1))&&decide (i64.wrap (j - 1)<(↑a:Int))
def xbu (j:Int):Nat:=0+(i64.wrap (j - 1)).toNat
def xcC (a:Nat) (j:Int):=decide (0<=j)&&decide (j<(↑a:Int))
def xeH (j:Int) (a:LA):=decide (0+j.toNat<a.length)
def xeF (j:Int) (a:LA):=xeH j a&&((a.getD (0+j.toNat) .top).cells.length==2&&xH1 [Sh.list 3,Sh.list 2] (a.getD (0+j.toNat) .top).cells 0)
def xaJ (j:Int) (a:LA):=(a.getD (xbu j) .top).cells
def xeD (j:Int) (a:LA):=decide (xbu j<a.length)&&((xaJ j a).length==2&&xH1 [Sh.list 3,Sh.list 2] (xaJ j a) 0)
def xeE (j:Int) (a:LA):=xff ((a.getD (0+j.toNat) .top).cells.getD 0 .top).toList ((a.getD (0+j.toNat) .top).cells.getD 1 .top).toList ((xaJ j a).getD 0 .top).toList ((xaJ j a).getD 1 .top).toList
def xeG (j:Int) (a:LA):=a.set (0+j.toNat) (AV.agg [AV.list 3 ((xaJ j a).getD 0 .top).toList,AV.list 2 ((xaJ j a).getD 1 .top).toList])
def xeT {T:Type} (d:Nat) (a b i j:Int) (c:LA) (δ:T) (κl:(Int×LA)->T) (κr:(LA)->T):T:=br (decide (j>a)) (br (xcC d j) (br (xeF j c) (br (xcB d j) (br (xeD j c) (br ((xeE j c).isSome) (br (decide ((xeE j c).getD 0<0)) (br (xcB d j) (br (xeD j c) (br (xcC d j) (br (xeF j c) (br (xcC d j) (br (xeH j c) (br (xcB d j) (br (decide (xbu j<(xeG j c).length)) (κl (i64.wrap (j - 1),(xeG j c).set (xbu j) (AV.agg [AV.list 3 ((c.getD (0+j.toNat) .top).cells.getD 0 .top).toList,AV.list 2 ((c.getD (0+j.toNat) .top).cells.getD 1 .top).toList]))) δ) δ) δ) δ) δ) δ) δ) δ) (κr (c))) δ) δ) δ) δ) δ) (κr (c))
def xbe (d:Nat) (a b i:Int):StT (Int×LA) (LA):=fun (j,c)=>xeT d a b i j c none inL inR
def xbt:=xyR.l 53 1 [148] [] Tryz.f188 1 lk0 [0,1,2,3,8,9] [0,1,2,3,8] [] (q6 (xIR 0 0 0) qI qI (xIj 143 xIH) qI qI) (q1 (qB 0 2 148 xIJ)) (fun (c,a,b,_,i,j,_) (d,_)=>(xbe c a b i,(j,d),fun p=>(.leaf (.exit 2) [AV.osl 0 0 0 c,AV.int .i64 a,AV.int .i64 b,AV.func 143 [],AV.int .i64 i] [bF 0 2 148 p]))) [] fun (c,a,b,_,i,_,_) _ (j,d)=>(((c,a,b,(),i,j,()),(d,())),xeT c a b i j d none)
def xeS {T:Type} (d:Nat) (a b i:Int) (c:LA) (δ:T) (κl:(Int×LA)->T) (κr:(LA)->T):T:=br (decide (i<b)) (br ((Iter (xbe d a b i) (i,c)).isSome) (κl (i64.wrap (i+1),(Iter (xbe d a b i) (i,c)).getD [])) δ) (κr (c))
def xbd (d:Nat) (a b:Int):StT (Int×LA) (LA):=fun (i,c)=>xeS d a b i c none inL inR
def xeC:=xyR.l 53 1 [148] [(4,xbt.lp)] Tryz.f188 0 (lk1 xbt.ok) [0,1,2,3,8] [] [] (q5 (xIR 0 0 0) qI qI (xIj 143 xIH) qI) (q1 (qB 0 2 148 xIJ)) (fun (d,a,b,_,i,_) (c,_)=>(xbd d a b,(i,c),fun p=>(.leaf (.exit 0) [] [bF 0 2 148 p]))) [] fun (d,a,b,_,_,_) _ (i,c)=>(((d,a,b,(),i,()),(c,())),xeS d a b i c none)
def xdl {T:Type} (n:Nat) (a b:Int) (c:LA) (δ:T) (κ:LA->T):T:=br ((Iter (xbd n a b) (i64.wrap (a+1),c)).isSome) (κ ((Iter (xbd n a b) (i64.wrap (a+1),c)).getD [])) δ
def xa0 (n:Nat) (a b:Int) (c:LA):=xdl n a b c none some
def xuK:EO:=xyR.fM Tryz.func188 53 1 [148] [(4,xbt.lp),(1,xeC.lp)] (lks (lkC xeC.ok (lkC xbt.ok lkN))) (u4 (sEq (xIR 0 0 0)) uI uI (sEq (xIj (143:FuncId) xIH))) (q1 (qB 0 2 148 xIJ)) (fun (n,a,b,_,_) (c,_) _=>xdl n a b c) (fun _ _ p=>(AV.tuple [],([bF 0 2 148 p]:List Box))) []
def xef {T:Type} (d:Nat) (n e a b:Int) (c:LA) (δ:T) (κl:(Int×Int×LA)->T) (κr:(Int×LA)->T):T:=br (decide (b<=n)) (br ((xa0 d a b c).isSome) (κl (b,i64.wrap (b+e),(xa0 d a b c).getD [])) δ) (κr (a,c))
def xbo (e:Nat) (n c:Int):StT (Int×Int×LA) (Int×LA):=fun (a,b,d)=>xef e n c a b d none inL inR
def xcD:=xuK.l 63 1 [148] [] Tryz.f171 0 lk0 [0,1,2,6,7,8] [0,1,2,6,7] [] (q6 (xIR 0 0 0) qI (xIj 143 xIH) qI qI qI) (q1 (qB 0 2 148 xIJ)) (fun (d,n,_,c,a,b,_) (e,_)=>(xbo d n c,(a,b,e),fun p=>(.leaf (.exit 0) [AV.osl 0 0 0 d,AV.int .i64 n,AV.func 143 [],AV.int .i64 c,AV.int .i64 p.1] [bF 0 2 148 p.2]))) (0,[]) fun (d,n,_,c,_,_,_) _ (a,b,e)=>(((d,n,(),c,a,b,()),(e,())),xef d n c a b e none)
def xg0 {T:Type} (d:Nat) (n e a b:Int) (c:LA) (δ:T) (κl:(Int×Int×LA)->T) (κr:(Int×LA)->T):T:=br (decide (b<=n)) (br (decide (0+d<=c.length)&&true) δ δ) (κr (a,c))
def xfx (e:Nat) (n c:Int):StT (Int×Int×LA) (Int×LA):=fun (a,b,d)=>xg0 e n c a b d none inL inR
def xcE:=xuK.l 63 1 [148] [(2,xcD.lp)] Tryz.f171 2 lk0 [0,1,2,6,7,8] [0,1,2,6,7] [] (q6 (xIR 0 0 0) qI (xIj 143 xIH) qI qI qI) (q1 (qB 0 2 148 xIJ)) (fun (d,n,_,c,a,b,_) (e,_)=>(xfx d n c,(a,b,e),fun p=>(.leaf (.exit 4) [AV.osl 0 0 0 d,AV.int .i64 n,AV.func 143 [],AV.int .i64 c,AV.int .i64 p.1] [bF 0 2 148 p.2]))) (0,[]) fun (d,n,_,c,_,_,_) _ (a,b,e)=>(((d,n,(),c,a,b,()),(e,())),xg0 d n c a b e none)
def xgN (c:Nat) (n a:Int) (b:LA):=Iter (xfx c n a) (0,i64.wrap (2*a),b)
def xd2 (c:Nat) (n a:Int) (b:LA):=(xgN c n a b).getD (0,[])
def xeg {T:Type} (c:Nat) (n a:Int) (b:LA) (δ:T) (κl:(Int×LA)->T) (κr:(LA)->T):T:=br (decide (a<n)) (br ((xgN c n a b).isSome) (br (decide (i64.wrap ((xd2 c n a b).fst+a)<n)) (br (decide (0+c<=((xd2 c n a b).snd).length)&&true) δ δ) (κl (i64.wrap (a*2),((xd2 c n a b).snd)))) δ) (κr (b))
def xb8 (c:Nat) (n:Int):StT (Int×LA) (LA):=fun (a,b)=>xeg c n a b none inL inR
def xgM:=xuK.l 63 1 [148] [(2,xcD.lp),(9,xcE.lp)] Tryz.f171 1 (lk1 xcE.ok) [0,1,2,6] [] [] (q4 (xIR 0 0 0) qI (xIj 143 xIH) qI) (q1 (qB 0 2 148 xIJ)) (fun (c,n,_,a,_) (b,_)=>(xb8 c n,(a,b),fun p=>(.leaf (.exit 2) [] [bF 0 2 148 p]))) [] fun (c,n,_,_,_) _ (a,b)=>(((c,n,(),a,()),(b,())),xeg c n a b none)
def xe5 (n:Nat) (k:Int) (a:LA):=(Iter (xbo n k 20) (0,20,a)).getD (0,[])
def xe4 (n:Nat) (k:Int) (a:LA):=xa0 n (xe5 n k a).fst k (xe5 n k a).snd
def xe3 (n:Nat) (k:Int) (a:LA):=Iter (xb8 n k) (20,(xe4 n k a).getD [])
def xfq {T:Type} (n:Nat) (k:Int) (a:LA) (δ:T) (κ:LA->T):T:=br ((Iter (xbo n k 20) (0,20,a)).isSome) (br ((xe4 n k a).isSome) (br ((xe3 n k a).isSome) (κ ((xe3 n k a).getD [])) δ) δ) δ
def xea (n:Nat) (k:Int) (a:LA):=xfq n k a none some
def xF4:EO:=xuK.fM Tryz.func171 63 1 [148] [(2,xcD.lp),(9,xcE.lp),(7,xgM.lp)] (lks (lkC xcD.ok (lkC xgM.ok (lkC xcE.ok lkN)))) (u3 (sEq (xIR 0 0 0)) uI (sEq (xIj (143:FuncId) xIH))) (q1 (qB 0 2 148 xIJ)) (fun (n,k,_,_) (a,_) _=>xfq n k a) (fun _ _ p=>(AV.tuple [],([bF 0 2 148 p]:List Box))) []
def xe2 {T:Type} (n:Nat) (a:LA) (δ:T) (κ:LA->T):T:=br ((xea n (↑n:Int) a).isSome) (κ ((xea n (↑n:Int) a).getD [])) δ
def xfB (n:Nat) (a:LA):=xe2 n a none some
def xCT:EO:=xF4.fM Tryz.func142 9 1 [148] [] lk0 (u2 (sEq (xIR 0 0 0)) (sEq (xIj (143:FuncId) xIH))) (q1 (qB 0 2 148 xIJ)) (fun (n,_,_) (a,_) _=>xe2 n a) (fun _ _ p=>(AV.tuple [],([bF 0 2 148 p]:List Box))) []
def xdp (b:LA) (c:Int) (a:LA):=a++[AV.agg [AV.list 3 (gC b c 0).toList,AV.list 2 []]]
def xbj (a:Nat):Nat:=0+(↑a:Int).toNat
def xbW (a:LA) (b:Int):=(xh9 (gC a b 0).toList).getD []
def xfs (d:LA) (f:Int) (b:Nat) (e:Int) (c a:LA):=decide (xbj b<(xdp d e a).length)
def xaP (c:LA) (b:Nat) (d:Int) (a:LA):=((xdp c d a).getD (xbj b) .top).cells
def xeX (a:LA) (b:Int):=decide ((xbW a b).length<=4611686018427387904)
def xdq (b:LA) (c:Int) (a:LA):=(xIe (AV.int .i64 0) a (xbW b c)).toInt
def xft (c:LA) (b:Nat) (d:Int) (a:LA):=decide (0<=xdq c d a)&&decide (xdq c d a<(↑b:Int))
def xaA (c:LA) (b:Nat) (d:Int) (a:LA):=((xaP c b d a).getD 1 .top).toList.length
def xas (b:LA) (c:Int) (a:LA):Nat:=0+(xdq b c a).toNat
def xeW (a:LA) (d:Nat) (b:Int) (c:LA):=((xaP a d b c).getD 1 .top).toList++[AV.agg [AV.int .i64 (gC a b 1).toInt,AV.int .i64 (gC a b 2).toInt]]
def xdO (c:LA) (b:Nat) (d:Int) (a:LA):=(xdp c d a).set (xbj b) (AV.agg (List.take 1 (xaP c b d a)++[AV.int .i64 (↑(xaA c b d a):Int)]++List.drop 2 (xaP c b d a)))
def xfu (c:LA) (d:Int) (a b:LA):=decide (xas c d a<b.length)
def xaB (c:LA) (d:Int) (a b:LA):=((b.getD (xas c d a) .top).cells.getD 1 .top).toList.length
def xeV (b:LA) (c:Int) (a d:LA):=((d.getD (xas b c a) .top).cells.getD 1 .top).toList++[AV.agg [AV.int .i64 (gC b c 1).toInt,AV.int .i64 (gC b c 2).toInt]]
def xcN (c:LA) (a:Nat) (d:Int) (b:LA):=((xdO c a d b).getD (xbj a) .top).cells
def xdP (c:LA) (d:Int) (a b:LA):=b.set (xas c d a) (AV.agg (List.take 1 (b.getD (xas c d a) .top).cells++[AV.int .i64 (↑(xaB c d a b):Int)]++List.drop 2 (b.getD (xas c d a) .top).cells))
def xcO (c:LA) (d:Int) (a b:LA):=((xdP c d a b).getD (xas c d a) .top).cells
def xc1 {T:Type} (e:LA) (f:Int) (d:Nat) (c:Int) (b a:LA) (δ:T) (κl:(Nat×Int×LA×LA)->T) (κr:(Nat×LA)->T):T:=br (decide (c<f)) (br (ixI e c) (br (ixT e c 3 [Sh.list 3,Sh.int .i64,Sh.int .i64] 0) (br (!xfm (gC e c 1).toInt (gC e c 2).toInt) (κl (d,i64.wrap (c+1),b,a)) (br ((xh9 (gC e c 0).toList).isSome) (br (xeX e c&&xHV (Sh.int .i64) (xIe (AV.int .i64 0) b (xbW e c))) (br (!xIq b (xbW e c)) (br (decide (b.length<4611686018427387904)&&xeX e c) (br (rmB d a 1 48) (br (decide ((↑d:Int)<(↑(d+1):Int))) (br (xfs e f d c b a&&(xIC 2 ((xaP e d c a).getD 1 .top)&&(xaP e d c a).length==2)) (br (xfs e f d c b a&&(xIC 2 ((xaP e d c a).getD 1 .top)&&((xaP e d c a).length==2&&(2*xaA e d c a==2*xaA e d c a&&(xaA e d c a==xaA e d c a&&(xaA e d c a==xaA e d c a&&(decide ((xaA e d c a+1)*16<=140737488355328)&&decide (xaA e d c a+1<=4611686018427387904)))))))) (br (decide ((↑d:Int)<(↑(d+1):Int))) (br (decide (xbj d<(xdO e d c a).length)&&((xcN e d c a).length==2&&(xaA e d c a+1==(xeW e d c a).length&&xIZ ((xcN e d c a).getD 1 .top) (xaA e d c a+1)))) (κl (d+1,i64.wrap (c+1),xIc b (xbW e c) (AV.int .i64 (↑d:Int)),(xdO e d c a).set (xbj d) (AV.agg (List.take 1 (xcN e d c a)++[AV.list 2 (xeW e d c a)]++List.drop 2 (xcN e d c a))))) δ) δ) δ) δ) δ) δ) δ) (br (xft e d c b) (br (xfu e c b a&&(xIC 2 ((a.getD (xas e c b) .top).cells.getD 1 .top)&&(a.getD (xas e c b) .top).cells.length==2)) (br (xfu e c b a&&(xIC 2 ((a.getD (xas e c b) .top).cells.getD 1 .top)&&((a.getD (xas e c b) .top).cells.length==2&&(2*xaB e c b a==2*xaB e c b a&&(xaB e c b a==xaB e c b a&&(xaB e c b a==xaB e c b a&&(decide ((xaB e c b a+1)*16<=140737488355328)&&decide (xaB e c b a+1<=4611686018427387904)))))))) (br (xft e d c b) (br (decide (xas e c b<(xdP e c b a).length)&&((xcO e c b a).length==2&&(xaB e c b a+1==(xeV e c b a).length&&xIZ ((xcO e c b a).getD 1 .top) (xaB e c b a+1)))) (κl (d,i64.wrap (c+1),b,(xdP e c b a).set (xas e c b) (AV.agg (List.take 1 (xcO e c b a)++[AV.list 2 (xeV e c b a)]++List.drop 2 (xcO e c b a))))) δ) δ) δ) δ) δ)) δ) δ)) δ) δ) (κr (d,a))
def xbb (d:LA) (e:Int):StT (Nat×Int×LA×LA) (Nat×LA):=fun (c,f,a,b)=>xc1 d e c f a b none inL inR
def xk6:=xCT.l 60 0 [] [] Tryz.f126 0 lk0 [3,4,11,12,13] [4] [(4,2,223474614420)] (q5 (xIS 0 0 0 0) (xIR 1 0 0) (qL 3) qI qI) (q2 (qB 0 2 1208925819615333616451584 xIJ) (qB 0 2 223474614420 xIJ)) (fun (_,c,d,e,f,_) (a,b,_)=>(xbb d e,(c,f,a,b),fun p=>(.leaf (.exit 0) [AV.osl 0 0 0 p.1] [bF 0 2 223474614420 p.2]))) (0,[]) fun (_,_,d,e,_,_) _ (c,f,a,b)=>((((),c,d,e,f,()),(a,b,())),xc1 d e c f a b none)
def xjJ (l:LA):=Iter (xbb l (↑l.length:Int)) (0,0,[],[])
def xdU (l:LA):=(xjJ l).getD (0,[])
def xg3 (l:LA):=xfB ((xdU l).fst) ((xdU l).snd)
def xkp {T:Type} (l:LA) (δ:T) (κ:LA->T):T:=br ((xjJ l).isSome) (br (xIr 2 1 ((xdU l).snd)) (br ((xg3 l).isSome) (br (decide (0+((xdU l).fst)<=((xg3 l).getD []).length)&&true) (κ (List.take ((xdU l).fst) (List.drop 0 ((xg3 l).getD [])))) δ) δ) δ) δ
def xdD (l:LA):=xkp l none some
def xCU:EO:=xCT.f Tryz.func126 60 0 [] [(4,xk6.lp)] (lk1 xk6.ok) (u1 (uL 3)) (fun (l,_) _=>xkp l) (fun _ p=>AV.list 2 p) []
end Go.Sim.M
end
