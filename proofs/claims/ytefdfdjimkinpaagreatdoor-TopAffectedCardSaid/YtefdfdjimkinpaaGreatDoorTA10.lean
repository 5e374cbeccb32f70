/- Part 10 of the proof of the law. -/
import Derived.Test.YtefdfdjimkinpaaGreatDoorTA9
import Derived.WalkKit
import Derived.BigCall
import Derived.Lib.Strings
import Derived.Lib.Slices
import Derived.Lib.Walk
import Derived.Lib.Builder
import Derived.Lib.UnsafeStr
import Derived.Laws.Externs
import Derived.Laws.IdiomCopy
import Derived.Laws.BitsLemmas
import Derived.RegionTactic
set_option linter.defProp false
set_option linter.unusedVariables false
set_option linter.unusedSimpArgs false
set_option linter.unnecessarySimpa false
noncomputable section
namespace Go.Proofs
open Go.RowKit Go.Lib
def Tryz.lies_builder (n:Nat) (hn:1<=n):liesAt Tryz.prog Tryz.prog.depth 150 n 0 150 1=true:=by
 have hc:Tryz.prog.cellsOf 150=2:=by kernel_rfl
 have hd:Tryz.prog.depth=(2*(Tryz.prog.types.size+Made.depth)+1)+1:=rfl;generalize Tryz.prog=P at *;rw [hd];simp only [liesAt,Bool.or_eq_true];left;rw [hd];simp [rowAt,hc,hn,sameLayout]
set_option maxHeartbeats 2000000 in
set_option maxRecDepth 100000 in
def Tryz.copyCheck_used (b:Nat) (w:World) (h0:w.cell? ⟨b,0,none⟩=some (.pointer (some ⟨b,0,none⟩))) :
  Calls Tryz.prog 131 #[.pointer (some ⟨b,0,none⟩)] w fun e w'=>e=.returned (.tuple #[])/\w'=w:=by
 have hsz:(Tryz.prog.info? 150).map (·.size)=some 2:=by kernel_rfl
 obtain ⟨j,hj,_⟩:=Option.map_eq_some_iff.1 hsz;have tp:Tryz.prog.underlying 147=some (.pointer 150):=by kernel_rfl
 go_enter Tryz.func131,Tryz.ntmps131
 go_wp2
 rw [Lib.run_neq_ptr_same w _ tp hj]
 go_wp2
 go_end0
 exact ⟨rfl,rfl⟩
set_option maxHeartbeats 2000000 in
set_option maxRecDepth 100000 in
def Tryz.copyCheck_fresh (b n:Nat) (hn:1<=n) (w:World) (h0:w.cell? ⟨b,0,none⟩=some (.pointer none)) (D:w.shape? b=some (150,n*2)) (O:w.frozen? ⟨b,0,none⟩=false) :
  Calls Tryz.prog 131 #[.pointer (some ⟨b,0,none⟩)] w fun e w'=>e=.returned (.tuple #[])/\w'=w.setCell ⟨b,0,none⟩ (.pointer (some ⟨b,0,none⟩)):=by
 have hsz:(Tryz.prog.info? 150).map (·.size)=some 2:=by kernel_rfl
 obtain ⟨j,hj,J⟩:=Option.map_eq_some_iff.1 hsz;have hc:Tryz.prog.cellsOf 150=2:=by kernel_rfl
 have tp:Tryz.prog.underlying 147=some (.pointer 150):=by kernel_rfl
 have tu:Tryz.prog.underlying 191=some .unsafePointer:=by kernel_rfl
 have q:liesAt Tryz.prog Tryz.prog.depth 150 (n*2 / Tryz.prog.cellsOf 150) 0 150 1=true:=by
  rw [hc,Nat.mul_div_cancel _ (by decide)];exact Tryz.lies_builder n hn
 have c1:=Lib.run_to_unsafe w ⟨b,0,none⟩ tp tu hj (by rw [J];decide) D (show 0<n*2 by omega)
 have c2:=Lib.run_from_unsafe w ⟨b,0,none⟩ tu tp hj D q;clear q
 go_enter Tryz.func131,Tryz.ntmps131
 go_wp2
 rw [run_callFunc_extern Tryz.func151 (by kernel_rfl) (by kernel_rfl) (by kernel_rfl) (e:=Extern.AbiNoEscape.same) (by kernel_rfl)]
 rw [Lib.run_noEscape];simp only [Result.andThen];rw [Oper.upon_value]
 go_wp2
 go_end0
 exact ⟨rfl,rfl⟩
set_option maxHeartbeats 2000000 in
set_option maxRecDepth 100000 in
def Tryz.builder_string (b g cap:Nat) (l:List UInt8) (cur:Array Value) (w:World) (hb:w.cell? ⟨b,1,none⟩=some (.slice (some ⟨g,0,none⟩) l.length cap))
  (hg:w.heap[g]?=some (.cells cur 5 (0,0))) (q:∀ j x,l[j]?=some x->w.cell? ((⟨g,0,none⟩:Addr).add j)=some (.int .u8 x.toNat)) (Q:l.length<=cur.size) (hcap:cap≠0) (h0:l≠[]) (D:l.length<=9223372036854775807) :
  Calls Tryz.prog 110 #[.pointer (some ⟨b,0,none⟩)] w fun e w'=>e=.returned (.string ⟨l.toArray⟩)/\w'=w.drew.freeze ⟨g,0,none⟩ l.length:=by
 have c1:w.drew.cell? ⟨b,1,none⟩=some (.slice (some ⟨g,0,none⟩) l.length cap):=hb;have O:Tryz.prog.underlying 174=some (.pointer 5):=by kernel_rfl
 have J:Tryz.prog.cellsOf 5=1:=by kernel_rfl
 have W:(Builtin.unsafeSliceData_ #[148] 174 #[.slice (some ⟨g,0,none⟩) l.length cap]).run Tryz.prog w.drew=.ok (.pointer (some ⟨g,0,none⟩)) w.drew :=
  Lib.run_unsafeSliceData_row _ _ _ _ _ _ hcap
 have V:(Builtin.unsafeString_ #[174,3] 9 #[.pointer (some ⟨g,0,none⟩),.int .i64 l.length]).run Tryz.prog w.drew=.ok (.string ⟨l.toArray⟩) (w.drew.freeze ⟨g,0,none⟩ l.length) :=
  Lib.run_unsafeString_row w.drew 174 3 9 5 O J g cur.size (by have hg':w.drew.heap[g]?=some (.cells cur 5 (0,0)):=hg;simp [World.shape?,hg']) l h0 Q D q
 clear q
 go_enter Tryz.func110,Tryz.ntmps110
 go_wp2
 go_region
 all_goals (go_wp2;go_ret;exact ⟨rfl,rfl⟩)
set_option maxHeartbeats 2000000 in
set_option maxRecDepth 100000 in
def Tryz.builder_string_nil (b:Nat) (w:World) (hb:w.cell? ⟨b,1,none⟩=some (.slice none 0 0)) :
  Calls Tryz.prog 110 #[.pointer (some ⟨b,0,none⟩)] w fun e w'=>e=.returned (.string ⟨#[]⟩)/\w'=w.drew:=by
 have c1:w.drew.cell? ⟨b,1,none⟩=some (.slice none 0 0):=hb;have D:(Builtin.unsafeSliceData_ #[148] 174 #[.slice none 0 0]).run Tryz.prog w.drew=.ok (.pointer none) w.drew:=rfl;have q:=Lib.run_unsafeString_none (P:=Tryz.prog) w.drew 174 3 9 none
 go_enter Tryz.func110,Tryz.ntmps110
 go_wp2
 go_region
 all_goals (go_wp2;go_ret;exact ⟨rfl,rfl⟩)
end Go.Proofs
end
noncomputable section
namespace Go.Sim
open Go.RowKit Go.Proofs
def M.isByte:AV->Bool
 | .int .u8 n=>decide (0<=n)&&decide (n<256)
 | _=>false
def M.isBytes (xs:List AV):Bool:=xs.all M.isByte
def M.strOf (xs:List AV):List UInt8:=xs.map fun x=>UInt8.ofNat x.toInt.toNat
def xpG (s:List UInt8):M.strOf (M.byteAVs s)=s:=by
 unfold M.strOf M.byteAVs;rw [List.map_map]
 conv=>rhs;rw [<-List.map_id s]
 exact List.map_congr_left fun u _=>by simp [AV.toInt]
def xnS (s:List UInt8):M.isBytes (M.byteAVs s)=true:=by
 unfold M.isBytes M.byteAVs;rw [zJ];intro x hx;obtain ⟨u,_,rfl⟩:=zL.1 hx;have:=u.toNat_lt;simp only [M.isByte,zg,zm];omega
def xoA (s t:List UInt8):M.byteAVs (s++t)=M.byteAVs s++M.byteAVs t:=by simp [M.byteAVs]
def xff (s:List UInt8):(M.byteAVs s).length=s.length:=by simp [M.byteAVs]
def xzk {x:AV} (h:M.isByte x=true):∃ u:UInt8,x=.int .u8 u.toNat:=by
 unfold M.isByte at h;split at h
 . rename_i n;simp only [zg,zm] at h;refine ⟨UInt8.ofNat n.toNat,?_⟩;have:(UInt8.ofNat n.toNat).toNat=n.toNat:=by rw [UInt8.toNat_ofNat',Nat.mod_eq_of_lt (by omega)]
   rw [this];congr 1;omega
 . simp at h
def xvD (w:World) (g n k:Nat) (h:k≠g):(w.freeze ⟨g,0,none⟩ n).heap[k]?=w.heap[k]?:=by
 unfold World.freeze;split
 . rfl
 . simp [Array.getElem?_modify,Ne.symm h]
def xwD (w:World) (g n:Nat):(w.freeze ⟨g,0,none⟩ n).heap.size=w.heap.size:=by
 unfold World.freeze;split
 . rfl
 . simp
def xAF {w w':World} {A:Nat->Prop} {M:Id->Option MB} {B:Nat} {H:List Box} (hR:HR w A M B H) {id:Nat} {m:MB} {bx:Box} (D:0<m.cap) (hm:M (.b id)=some m) (hb:H[id]?=some bx) (Y:isC bx.ty=false) (aa:bx.frz=false) (O:BoxAt w A M B (.b id) m bx) (v:Nat) (hv:m.ver<v) (sz:Nat) (ty:TypeId) (V:isC ty=false)
  (hs:w'.heap.size=w.heap.size) (hw:∀ b,b≠m.b->w'.heap[b]?=w.heap[b]?) :
  HR w' A (MSet M (.b id) ⟨m.b,v,sz,0,ty⟩) B (H.set id ⟨v,sz,ty,[],false,true⟩)/\Mv w A M w' A (MSet M (.b id) ⟨m.b,v,sz,0,ty⟩):=by
 have Z:A m.b:=(O.guard D).1 aa;have J:MExt M (MSet M (.b id) ⟨m.b,v,sz,0,ty⟩):=xm9 hm (.inr hv);have hw':∀ b,b<w.heap.size->¬ A b->w'.heap[b]?=w.heap[b]?:=fun b _ hA=>hw b fun e=>hA (e▸Z)
 have hc:∀ {p:Prop},0<(0:Nat)->p:=fun h=>absurd h (by omega)
 have q:∀ i m1,MSet M (.b id) ⟨m.b,v,sz,0,ty⟩ i=some m1->0<m1.cap->i≠.b id/\M i=some m1:=fun i m1 h1 h0=>by
  by_cases hi:i=.b id
  . subst hi;simp [MSet] at h1;subst h1;exact absurd h0 (by simp)
  . exact ⟨hi,by simpa [MSet,hi] using h1⟩
 refine ⟨⟨fun i m1 h1=>?_,fun i i' m1 m2 h1 h2 c1 c2 he=>hR.inj i i' m1 m2 (q i m1 h1 c1).2 (q i' m2 h2 c2).2 c1 c2 he,fun b hb=>by rw [hs];exact hR.lt b hb⟩,⟨by omega,hw',fun _ _ h=>h,fun _ _ h _=>h,J,⟨fun b _ hb=>hw b fun e=>hb (.b id) m hm D e.symm,fun i m1 h1 h0=>.inl ⟨i,m1,(q i m1 h1 h0).2,h0,rfl⟩⟩⟩⟩
 by_cases hi:i=.b id
 . subst hi;have:m1=⟨m.b,v,sz,0,ty⟩:=by simp [MSet] at h1;exact h1.symm
   subst this;exact ⟨⟨v,sz,ty,[],false,true⟩,by rw [xbG,zM (xcP hb)],rfl,rfl,xbJ V,zR _,zR _,fun x hx=>by simp at hx,hc,hc,hc,hc⟩
 . have Q:M i=some m1:=by simpa [MSet,hi] using h1
   obtain ⟨W,g1,g2⟩:=hR.box i m1 Q;exact ⟨W,by rw [xc6 hb Y V hi];exact g1,g2.mono (fun h0=>hw _ fun e=>hi (hR.inj i (.b id) m1 m Q hm h0 D e)) hw' (by omega) (fun _ _ h=>h) g2.guard J⟩
def xlF {w:World} {A:Nat->Prop} {M:Id->Option MB} {B:Nat} {H:List Box} (hR:HR w A M B H) {v:Value} {a x:AV} {ty:TypeId} {frz pm:Bool} (D:isC ty=false) (hv:Rel w A M v (.own (.b 0) 0 0 0)) (hb:H[0]?=some ⟨0,2,ty,[.agg [a,x]],frz,pm⟩) :
  ∃ m c,M (.b 0)=some m/\BoxAt w A M B (.b 0) m ⟨0,2,ty,[.agg [a,x]],frz,pm⟩/\1<=m.cap/\v=.pointer (some ⟨m.b,0,none⟩)/\w.heap[m.b]?=some (.cells c ty (0,0))/\c.size=m.cap*2/\m.sz=2 /\
   Rel w A (MP M pm) (c.getD 0 undef) a/\Rel w A (MP M pm) (c.getD 1 undef) x/\w.cell? ⟨m.b,0,none⟩=some (c.getD 0 undef)/\w.cell? ⟨m.b,1,none⟩=some (c.getD 1 undef):=by
 obtain ⟨m,hm,q,hp⟩:=xkQ hR hv (xky hb D);have hcap:1<=m.cap:=q.fits;have hsz:m.sz=2:=q.sz.symm;obtain ⟨c,h1,h2,h3⟩:=q.plainCells D (by omega)
 rw [hsz] at h2;have r0:=h3 0 0 (by simp) (by omega)
 have r1:=h3 0 1 (by simp) (by omega)
 have h1:w.heap[m.b]?=some (.cells c ty (0,0)):=h1;have e0:w.cell? ⟨m.b,0,none⟩=some (c.getD 0 undef):=by
  have:0<c.size:=by omega
  simp [World.cell?,h1,this]
 have e1:w.cell? ⟨m.b,1,none⟩=some (c.getD 1 undef):=by
  have:1<c.size:=by omega
  simp [World.cell?,h1,this]
 refine ⟨m,c,hm,q,hcap,by simpa using hp,h1,h2,hsz,by simpa [AV.cells] using r0,by simpa [AV.cells] using r1,e0,e1⟩
def xn5:List AV->List Box->Option (Bool×AV×List Box)
 | [.own (.b 0) 0 0 0],⟨0,2,ty,[.agg [.nilptr,x]],false,pm⟩::r=>match Nat.beq ty 150 with
  | true=>some (true,.tuple [],⟨0,2,ty,[.agg [.own (.b 0) 0 0 0,x]],false,false⟩::r)
  | false=>none
 | [.own (.b 0) 0 0 0],⟨0,2,ty,[.agg [.own (.b 0) 0 0 0,x]],false,pm⟩::r=>match Nat.beq ty 150 with
  | true=>some (true,.tuple [],⟨0,2,ty,[.agg [.own (.b 0) 0 0 0,x]],false,pm⟩::r)
  | false=>none
 | _,_=>none
def xww:OmOk Tryz.prog xIQ 131 xn5:=fun xs H r H' h=>by
 unfold xn5 at h;split at h
 . rename_i ty x pm rest;split at h
   case h_2=>simp at h
   rename_i D;have D:=zh D;subst D;simp only [z6,zb,true_and] at h;obtain ⟨rfl,rfl⟩:=h;refine ⟨xfb Tryz.func131 rfl (by kernel_rfl),fun w0 w A M vs hI hB hR J=>?_⟩
   obtain ⟨v,rfl,hv⟩:=rc1 J;obtain ⟨m,c,hm,q,hcap,rfl,hh,O,hsz,r0,r1,e0,e1⟩:=xlF hR (by rfl) hv rfl
   have hn:c.getD 0 undef=.pointer none:=by
    revert r0;generalize c.getD 0 undef=z;intro r0;cases r0;rfl
   rw [hn] at e0;refine (Tryz.copyCheck_fresh m.b m.cap hcap w e0 (by simp [World.shape?,hh,O]) (Lib.frozen_of_heap hh 0)).mono ?_
   rintro e w' ⟨rfl,rfl⟩;rw [setCell_eq_setRow w m.b 0 c _ _ _ hh];have Z:x.one=true:=by
    have:=q.ok (.agg [.nilptr,x]) (by simp)
    simp only [AV.okElem,AV.cells,List.all_cons,zg] at this;exact this.2.2.1
   have V:(0:Nat)=m.ver:=q.ver;obtain ⟨g1,g2,g3,g4,gt,g5⟩:=xmQ (m':=m) (bx':=⟨0,2,150,[.agg [.own (.b 0) 0 0 0,x]],false,false⟩) hR (by omega) hm rfl q rfl rfl rfl (c':=c.setIfInBounds 0 (.pointer (some ⟨m.b,0,none⟩))) rfl rfl rfl rfl (.inl rfl)
    V (by rw [hsz]) (by have:=q.ty;rw [xbJ rfl] at this;exact this) rfl hcap (fun y hy=>by
     simp only [zw] at hy;subst hy;rw [hsz];simp [AV.okElem,AV.cells,Z,show (AV.own (.b 0) 0 0 0).one=true from rfl]) (by rw [hsz];simpa using O) (fun i j hi hj=>by
     have aa:i=0:=by simpa using hi
     subst aa;rw [hsz] at hj |-;have Y:0<c.size:=by omega
     have ab:1<c.size:=by omega
     match j,hj with
     | 0,_ =>
      have:(c.setIfInBounds 0 (.pointer (some ⟨m.b,0,none⟩))).getD (0*2+0) undef=.pointer (some ⟨m.b,0,none⟩):=by simp [Y]
      rw [this];exact .own _ (.b 0) 0 0 0 m hm (by omega) rfl (fun _=>by rw [xjf (q.nomap rfl)];simp)
     | 1,_ =>
      have:(c.setIfInBounds 0 (.pointer (some ⟨m.b,0,none⟩))).getD (0*2+1) undef=c.getD 1 undef:=by simp [Array.getElem?_setIfInBounds]
      rw [this];exact r1.unmp)
   exact ⟨_,A,_,rfl,hB.trans g4,fun _ _=>Iff.rfl,Ev.refl.step ⟨by simp [World.setRow],g3,fun _ _ h=>h,fun _ _ h _=>h,g2,gt⟩,by simpa using g1,.tuple #[] [] rfl (by simp)⟩
 . rename_i ty x pm rest;split at h
   case h_2=>simp at h
   rename_i D;have D:=zh D;subst D;simp only [z6,zb,true_and] at h;obtain ⟨rfl,rfl⟩:=h;refine ⟨xfb Tryz.func131 rfl (by kernel_rfl),fun w0 w A M vs hI hB hR J=>?_⟩
   obtain ⟨v,rfl,hv⟩:=rc1 J;obtain ⟨m,c,hm,q,hcap,rfl,hh,O,hsz,r0,r1,e0,e1⟩:=xlF hR (by rfl) hv rfl
   obtain ⟨m',Q,W,hp⟩:=xkQ hR r0.unmp (xky (n:=0) (bx:=⟨0,2,150,[.agg [.own (.b 0) 0 0 0,x]],false,pm⟩) rfl rfl);rw [hm] at Q;obtain rfl:=(z6 _ _).mp Q;rw [hp] at e0;refine (Tryz.copyCheck_used m.b w (by simpa using e0)).mono ?_
   rintro e w' ⟨rfl,rfl⟩;exact ⟨_,A,M,rfl,hB,fun _ _=>Iff.rfl,Ev.refl,hR,.tuple #[] [] rfl (by simp)⟩
 . simp at h
def xjF:List AV->List Box->Option (Bool×AV×List Box)
 | [.own (.b 0) 0 0 0],[⟨0,2,ty,[.agg [a,.osl (.b 1) u 0 n]],false,pm⟩,⟨u',1,ty',bs,false,pm'⟩]=>match Nat.beq ty 150&&(Nat.beq ty' 5&&Nat.beq u u') with
  | true=>some ((decide (n=bs.length)&&M.isBytes bs)&&decide (bs.length≠0),.str (M.strOf bs),[⟨0,2,ty,[.agg [a,.osl (.b 1) u 0 n]],false,pm⟩,⟨u+1,1,ty',[],false,true⟩])
  | false=>none
 | [.own (.b 0) 0 0 0],⟨0,2,ty,[.agg [a,.nils]],false,pm⟩::r=>match Nat.beq ty 150 with
  | true=>some (true,.str [],⟨0,2,ty,[.agg [a,.nils]],false,pm⟩::r)
  | false=>none
 | _,_=>none
def xrD:OmOk Tryz.prog xIQ 110 xjF:=fun xs H r H' h=>by
 unfold xjF at h;split at h
 . rename_i ty a u n pm u' al bs af;split at h
   case h_2=>simp at h
   rename_i J;simp only [zg] at J;obtain ⟨h1,h2,h3⟩:=J;have h1:=zh h1;have h2:=zh h2;have h3:=zh h3;subst h1 h2 h3;simp only [z6,zb,zg,zm] at h;obtain ⟨⟨⟨rfl,ae⟩,hne⟩,rfl,rfl⟩:=h;refine ⟨xfb Tryz.func110 rfl (by kernel_rfl),fun w0 w A MM vs hI hB hR V=>?_⟩
   obtain ⟨v,rfl,hv⟩:=rc1 V;obtain ⟨m,c,hm,aa,hcap,rfl,hh,ag,hsz,r0,r1,e0,e1⟩:=xlF hR (by rfl) hv rfl
   obtain ⟨m1,a1,ah,q,ai,ad,ab⟩:=xil hR r1.unmp (xky (n:=1) (bx:=⟨u,1,5,bs,false,af⟩) rfl rfl);have D:0<m1.cap:=by have:=q.fits;simp only at this;omega
   have ha:=ab D;subst ha;obtain ⟨c1,k1,k2,k3⟩:=q.plainCells rfl D;have O:m1.sz=1:=q.sz.symm;have aj:5=m1.ty:=by have:=q.ty;rw [xbJ rfl] at this;exact this
   rw [ad] at e1;simp only [Nat.zero_mul,Nat.sub_zero] at e1;have hl:(M.strOf bs).length=bs.length:=by simp [M.strOf]
   have Q:∀ j,j<bs.length->∃ uu:UInt8,bs.getD j .top=.int .u8 uu.toNat/\(M.strOf bs)[j]?=some uu/\w.cell? ⟨m1.b,j,none⟩=some (.int .u8 uu.toNat):=fun j hj=>by
    have ac:bs.getD j .top∈bs:=xaI hj;obtain ⟨uu,hu⟩:=xzk (zJ.1 ae _ ac);refine ⟨uu,hu,?_,?_⟩
    . have:bs[j]?=some (bs.getD j .top):=xoH hj;simp only [M.strOf,List.getElem?_map,this,hu,Option.map_some,AV.toInt,zO,UInt8.ofNat_toNat]
    . have hr:=k3 j 0 hj (by omega)
      rw [O,hu] at hr;simp only [Nat.mul_one,Nat.add_zero,AV.cells,List.getD_cons_zero] at hr;have:=hr.int_inv;have Z:j<c1.size:=by have:=q.fits;simp only at this;rw [k2,O];omega
      simp only [World.cell?,k1];have e2:c1.getD j undef=c1[j]:=by simp [Z]
      rw [e2] at this;simp [Z,this]
   refine (Tryz.builder_string m.b m1.b m1.cap (M.strOf bs) c1 w (by rw [hl];exact e1) k1 (fun j x hx=>by
    have hj:j<bs.length:=by
     rcases zK j bs.length with h'|h'
     . exact h'
     . rw [zA (by omega)] at hx;simp at hx
    obtain ⟨uu,g1,g2,g3⟩:=Q j hj;rw [g2] at hx;obtain rfl:=(z6 _ _).mp hx;by_cases Y:j=0
    . subst Y;simpa [Addr.add] using g3
    . simpa [Addr.add,Y] using g3) (by rw [hl,k2,O];have:=q.fits;simp only at this;omega) (by omega) (fun e=>hne (by rw [<-hl,e];rfl)) (by rw [hl];have h1:=q.fits;have h2:=q.capm;simp only at h1;unfold maxLen at h2;omega)).mono ?_
   rintro e w' ⟨rfl,rfl⟩;rw [hl];have W:=q.low D;obtain ⟨g1,g2⟩:=xAF hR D ah rfl rfl rfl q (u+1) (by have:=q.ver;simp only at this;omega) 1 5 rfl (w':=w.drew.freeze ⟨m1.b,0,none⟩ bs.length) (by rw [xwD];rfl) (fun b hb=>by rw [xvD _ _ _ _ hb];rfl)
   exact ⟨_,A,_,rfl,Lib.below_freeze (hB.drew) (p:=⟨m1.b,0,none⟩) W _,fun _ _=>Iff.rfl,Ev.refl.step g2,by simpa using g1,.str _⟩
 . rename_i ty a pm rest ak;split at h
   case h_2=>simp at h
   rename_i J;have J:=zh J;subst J;simp only [z6,zb,true_and] at h;obtain ⟨rfl,rfl⟩:=h;refine ⟨xfb Tryz.func110 rfl (by kernel_rfl),fun w0 w A MM vs hI hB hR V=>?_⟩
   obtain ⟨v,rfl,hv⟩:=rc1 V;obtain ⟨m,c,hm,aa,hcap,rfl,hh,ag,hsz,r0,r1,e0,e1⟩:=xlF hR (by rfl) hv rfl
   have hn:c.getD 1 undef=.slice none 0 0:=by
    revert r1;generalize c.getD 1 undef=z;intro r1;cases r1;rfl
   rw [hn] at e1;refine (Tryz.builder_string_nil m.b w e1).mono ?_;rintro e w' ⟨rfl,rfl⟩;exact ⟨_,A,MM,rfl,hB.drew,fun _ _=>Iff.rfl,Ev.refl.step ⟨zd _,fun _ _ _=>rfl,fun _ _ h=>h,fun _ _ h _=>h,MExt.refl MM,⟨fun _ _ _=>rfl,fun i m1 h1 h0=>.inl ⟨i,m1,h1,h0,rfl⟩⟩⟩,hR.drew,.str _⟩
 . simp at h
end Go.Sim
end
noncomputable section
namespace Go.Sim
open Go.RowKit
variable {α β γ : Type}
structure Pat (α β:Type) where
 enc:β->α
 dec:α->Option β
 ok:∀ a b,dec a=some b->a=enc b
def xIV:Pat α α:=⟨fun b=>b,some,fun a b h=>by simpa using h⟩
def pInt (k:IntKind):Pat AV Int:=⟨.int k,fun v=>match v with
 | .int k' n=>match decide (k'=k) with
  | true=>some n
  | false=>none
 | _=>none,fun v n h=>by
 split at h
 . split at h
   . rename_i hk;simp only [z6] at h;rw [of_decide_eq_true hk,h]
   . simp at h
 . simp at h⟩
def pStr:Pat AV (List UInt8):=⟨.str,fun v=>match v with
 | .str s=>some s
 | _=>none,fun v n h=>by
 split at h
 . simp only [z6] at h;rw [h]
 . simp at h⟩
def pBool:Pat AV Bool:=⟨.bool,fun v=>match v with
 | .bool s=>some s
 | _=>none,fun v n h=>by
 split at h
 . simp only [z6] at h;rw [h]
 . simp at h⟩
def xI8 (sz:Nat) (q:Pat (List AV) β):Pat AV β:=⟨fun b=>.list sz (q.enc b),fun v=>match v with
 | .list z xs=>match Nat.beq z sz with
  | true=>q.dec xs
  | false=>none
 | _=>none,fun v n h=>by
 split at h
 . split at h
   . rename_i hz;rw [zh hz,q.ok _ _ h]
   . simp at h
 . simp at h⟩
def xI2 (id ver off:Nat):Pat AV Nat:=⟨.osl id ver off,fun v=>match v with
 | .osl (.b i) e o n=>match Nat.beq i id&&(Nat.beq e ver&&Nat.beq o off) with
  | true=>some n
  | false=>none
 | _=>none,fun v n h=>by
 split at h
 . split at h
   . rename_i hz;simp only [zg] at hz;simp only [z6] at h;rw [zh hz.1,zh hz.2.1,zh hz.2.2,h]
   . simp at h
 . simp at h⟩
def pOslV (id off:Nat):Pat AV (Nat×Nat):=⟨fun p=>.osl id p.1 off p.2,fun v=>match v with
 | .osl (.b i) e o n=>match Nat.beq i id&&Nat.beq o off with
  | true=>some (e,n)
  | false=>none
 | _=>none,fun v n h=>by
 split at h
 . split at h
   . rename_i hz;simp only [zg] at hz;simp only [z6] at h;rw [zh hz.1,zh hz.2,<-h]
   . simp at h
 . simp at h⟩
def pOwnV (id j:Nat):Pat AV (Nat×Nat):=⟨fun p=>.own id p.1 p.2 j,fun v=>match v with
 | .own (.b a) b c d=>match Nat.beq a id&&Nat.beq d j with
  | true=>some (b,c)
  | false=>none
 | _=>none,fun v n h=>by
 split at h
 . split at h
   . rename_i hz;simp only [zg] at hz;simp only [z6] at h;rw [zh hz.1,zh hz.2,<-h]
   . simp at h
 . simp at h⟩
def xI3 (id ver i j:Nat):Pat AV Unit:=⟨fun _=>.own id ver i j,fun v=>match v with
 | .own (.b a) b c d=>match Nat.beq a id&&(Nat.beq b ver&&(Nat.beq c i&&Nat.beq d j)) with
  | true=>some ()
  | false=>none
 | _=>none,fun v n h=>by
 split at h
 . split at h
   . rename_i hz;simp only [zg] at hz;rw [zh hz.1,zh hz.2.1,zh hz.2.2.1,zh hz.2.2.2]
   . simp at h
 . simp at h⟩
def xI9 (sz i j:Nat) (q:Pat (List AV) β):Pat AV β:=⟨fun b=>.eptr sz (q.enc b) i j,fun v=>match v with
 | .eptr a xs c d=>match Nat.beq a sz&&(Nat.beq c i&&Nat.beq d j) with
  | true=>q.dec xs
  | false=>none
 | _=>none,fun v n h=>by
 split at h
 . split at h
   . rename_i hz;simp only [zg] at hz;rw [zh hz.1,zh hz.2.1,zh hz.2.2,q.ok _ _ h]
   . simp at h
 . simp at h⟩
def xI4 (q:Pat (List AV) β):Pat AV β:=⟨fun b=>.agg (q.enc b),fun v=>match v with
 | .agg cs=>q.dec cs
 | _=>none,fun v n h=>by
 split at h
 . rw [q.ok _ _ h]
 . simp at h⟩
def xIv (f:Nat) (q:Pat (List AV) β):Pat AV β:=⟨fun b=>.func f (q.enc b),fun v=>match v with
 | .func g cs=>match Nat.beq g f with
  | true=>q.dec cs
  | false=>none
 | _=>none,fun v n h=>by
 split at h
 . split at h
   . rename_i hz;rw [zh hz,q.ok _ _ h]
   . simp at h
 . simp at h⟩
def pNils:Pat AV Unit:=⟨fun _=>.nils,fun v=>match v with
 | .nils=>some ()
 | _=>none,fun v n h=>by
 split at h
 . rfl
 . simp at h⟩
def pNilptr:Pat AV Unit:=⟨fun _=>.nilptr,fun v=>match v with
 | .nilptr=>some ()
 | _=>none,fun v n h=>by
 split at h
 . rfl
 . simp at h⟩
def xIT:Pat (List α) Unit:=⟨fun _=>[],fun v=>match v with
 | []=>some ()
 | _=>none,fun v n h=>by
 split at h
 . rfl
 . simp at h⟩
def xIR (p:Pat α β) (q:Pat (List α) γ):Pat (List α) (β×γ):=⟨fun b=>p.enc b.1::q.enc b.2,fun v=>match v with
 | x::t=>match p.dec x with
  | some b=>match q.dec t with
   | some c=>some (b,c)
   | none=>none
  | none=>none
 | _=>none,fun v n h=>by
 split at h
 . split at h
   . rename_i hp;split at h
     . rename_i hq;cases h;rw [p.ok _ _ hp,q.ok _ _ hq]
     . simp at h
   . simp at h
 . simp at h⟩
def xI5 (ver sz ty:Nat) (frz pm:Bool) (q:Pat (List AV) β):Pat Box β:=⟨fun b=>⟨ver,sz,ty,q.enc b,frz,pm⟩,fun v=>match v with
 | ⟨a,b,c,xs,f,p⟩=>match Nat.beq a ver&&(Nat.beq b sz&&(Nat.beq c ty&&((f==frz)&&(p==pm)))) with
  | true=>q.dec xs
  | false=>none,fun v n h=>by
 obtain ⟨a,b,c,xs,f,p⟩:=v;dsimp only at h;split at h
 . rename_i hz;simp only [zg,beq_iff_eq] at hz;rw [zh hz.1,zh hz.2.1,zh hz.2.2.1,hz.2.2.2.1,hz.2.2.2.2,q.ok _ _ h]
 . simp at h⟩
def pBoxV (sz ty:Nat) (frz pm:Bool) (q:Pat (List AV) β):Pat Box (Nat×β):=⟨fun b=>⟨b.1,sz,ty,q.enc b.2,frz,pm⟩,fun v=>match v with
 | ⟨a,b,c,xs,f,p⟩=>match Nat.beq b sz&&(Nat.beq c ty&&((f==frz)&&(p==pm))) with
  | true=>match q.dec xs with
   | some y=>some (a,y)
   | none=>none
  | false=>none,fun v n h=>by
 obtain ⟨a,b,c,xs,f,p⟩:=v;dsimp only at h;split at h
 . rename_i hz;simp only [zg,beq_iff_eq] at hz;split at h
   . rename_i y hy;simp only [z6] at h;rw [zh hz.1,zh hz.2.1,hz.2.2.1,hz.2.2.2,<-h,q.ok _ _ hy]
   . simp at h
 . simp at h⟩
def Sub (a b:AV):Prop:=∀ (w:World) (A:Nat->Prop) (M:Id->Option MB) (v:Value),Rel w A M v a->Rel w A M v b
def SubL (aS bs:List AV):Prop:=aS.length=bs.length/\∀ i,i<aS.length->Sub (aS.getD i .top) (bs.getD i .top)
def Sub.refl (a:AV):Sub a a:=fun _ _ _ _ h=>h
def Sub.of_eq {a b:AV} (h:a=b):Sub a b:=h▸Sub.refl a
def xnw (sz:Nat):Sub .nils (.list sz []):=fun w A M v h=>by
 cases h;exact .list0 _ _ _
def xEq {aS bs:List AV} (h:SubL aS bs):Sub (.agg aS) (.agg bs):=fun w A M v hr=>by
 obtain ⟨vs,rfl,h1,h2⟩:=hr.agg_inv;exact .agg vs bs (h1.trans h.1) fun i hi=>h.2 i (h.1.symm▸hi) w A M _ (h2 i (h.1.symm▸hi))
def xBb {w:World} {A:Nat->Prop} {M:Id->Option MB} {vs:List Value} {aS bs:List AV} (h:SubL aS bs) (hr:RC w A M vs aS):RC w A M vs bs :=
 ⟨hr.1.trans h.1,fun i hi=>h.2 i (h.1.symm▸hi) w A M _ (hr.2 i (h.1.symm▸hi))⟩
structure SPat (β:Type) where
 enc:β->AV
 dec:AV->Option β
 ok:∀ a b,dec a=some b->Sub a (enc b)
structure SPatL (β:Type) where
 enc:β->List AV
 dec:List AV->Option β
 ok:∀ a b,dec a=some b->SubL a (enc b)
def sEq (p:Pat AV β):SPat β:=⟨p.enc,p.dec,fun a b h=>Sub.of_eq (p.ok a b h)⟩
def xI6 (sz:Nat) (q:Pat (List AV) β):SPat β:=⟨fun b=>.list sz (q.enc b),fun v=>match v with
 | .nils=>q.dec []
 | .list z xs=>match Nat.beq z sz with
  | true=>q.dec xs
  | false=>none
 | _=>none,fun v n h=>by
 split at h
 . rw [<-q.ok _ _ h];exact xnw sz
 . split at h
   . rename_i hz;rw [zh hz,q.ok _ _ h];exact Sub.refl _
   . simp at h
 . simp at h⟩
def xI7 (q:SPatL β):SPat β:=⟨fun b=>.agg (q.enc b),fun v=>match v with
 | .agg cs=>q.dec cs
 | _=>none,fun v n h=>by
 split at h
 . exact xEq (q.ok _ _ h)
 . simp at h⟩
def xIU:SPatL Unit:=⟨fun _=>[],fun v=>match v with
 | []=>some ()
 | _=>none,fun v n h=>by
 split at h
 . exact ⟨rfl,fun i hi=>by simp at hi⟩
 . simp at h⟩
def xIS (p:SPat β) (q:SPatL γ):SPatL (β×γ):=⟨fun b=>p.enc b.1::q.enc b.2,fun v=>match v with
 | x::t=>match p.dec x with
  | some b=>match q.dec t with
   | some c=>some (b,c)
   | none=>none
  | none=>none
 | _=>none,fun v n h=>by
 split at h
 . split at h
   . rename_i hp;split at h
     . rename_i hq;cases h;obtain ⟨h1,h2⟩:=q.ok _ _ hq;refine ⟨by simp [h1],fun i hi=>?_⟩
       cases i with
       | zero=>exact p.ok _ _ hp
       | succ i=>exact h2 i (by simpa using hi)
     . simp at h
   . simp at h
 . simp at h⟩
def ocOf (pv:SPatL β) (g:β->Bool×AV):List AV->Option (Bool×AV):=fun xs=>match pv.dec xs with
 | some b=>some (g b)
 | none=>none
def omOf (pv:SPatL β) (pb:Pat (List Box) γ) (g:β->γ->Bool×AV×List Box):List AV->List Box->Option (Bool×AV×List Box):=fun xs H=>match pv.dec xs with
 | some b=>match pb.dec H with
  | some c=>some (g b c)
  | none=>none
 | none=>none
def lpOf (live liveO:List Nat) (conv:List (Nat×Nat×TypeId)) (pv:Pat (List AV) β) (pb:Pat (List Box) γ) (g:β->γ->Bool×LR):Lp:=⟨live,liveO,conv,fun xs H=>match pv.dec xs with
 | some b=>match pb.dec H with
  | some c=>some (g b c)
  | none=>none
 | none=>none⟩
section
variable {P : Program} {Inv : IV}
def xdB {n:FuncId} {pv:SPatL β} {g:β->Bool×AV} (h:∀ b r,g b=(true,r)->Good P Inv n (pv.enc b) r):OcOk P Inv n (ocOf pv g):=fun xs r e=>by
 unfold ocOf at e;split at e
 . rename_i b hb;simp only [z6] at e;obtain ⟨h1,h2⟩:=h b r e;exact ⟨h1,fun w A vs hi ha hr=>h2 w A vs hi ha (xBb (pv.ok _ _ hb) hr)⟩
 . simp at e
def xoI {n:FuncId} {pv:SPatL β} {pb:Pat (List Box) γ} {g:β->γ->Bool×AV×List Box} (h:∀ b c r H',g b c=(true,r,H')->GoodM P Inv n (pv.enc b) (pb.enc c) r H'):OmOk P Inv n (omOf pv pb g):=fun xs H r H' e=>by
 unfold omOf at e;split at e
 . rename_i b hb;split at e
   . rename_i c hc;simp only [z6] at e;rw [pb.ok _ _ hc];obtain ⟨h1,h2⟩:=h b c r H' e;exact ⟨h1,fun w0 w A M vs hi q hR hr=>h2 w0 w A M vs hi q hR (xBb (pv.ok _ _ hb) hr)⟩
   . simp at e
 . simp at e
def xm8 {nt:Nat} {l:Code} {live liveO:List Nat} {conv:List (Nat×Nat×TypeId)} {pv:Pat (List AV) β} {pb:Pat (List Box) γ} {g:β->γ->Bool×LR}
  (h:∀ b c r,g b c=(true,r)->DoesL P Inv l (fun e1 s1=>e1=r.eval.1/\s1=⟨mkTs nt (liveO.zip r.eval.2.1),r.eval.2.2⟩) ⟨mkTs nt (live.zip (pv.enc b)),pb.enc c⟩):LoopOk P Inv nt l (lpOf live liveO conv pv pb g):=fun vals H r e=>by
 unfold lpOf at e;dsimp only at e;split at e
 . rename_i b hb;split at e
   . rename_i c hc;simp only [z6] at e;rw [pv.ok _ _ hb,pb.ok _ _ hc];exact h b c r e
   . simp at e
 . simp at e
end
def xaE {x:Option α} {d:α} (h:x.isSome=true):x=some (x.getD d):=by
 cases x with
 | none=>simp at h
 | some y=>rfl
open Classical in
noncomputable def limN {α:Type} (R:Nat->Option α):Option α:=if h:∃ n,(R n).isSome=true then R (Classical.choose h) else none
def xjx {α:Type} {R:Nat->Option α} (h:(limN R).isSome=true):∃ n,limN R=R n:=by
 unfold limN at h |-;split
 . exact ⟨_,rfl⟩
 . rename_i hn;rw [dif_neg hn] at h;simp at h
def xje {α:Type} {R:Nat->Option α} {n:Nat} (h:(R n).isSome=true):(limN R).isSome=true:=by
 unfold limN;rw [dif_pos ⟨n,h⟩];exact Classical.choose_spec (⟨n,h⟩:∃ n,(R n).isSome=true)
def xo6 {P:Program} {Inv:IV} {f:FuncId} {pv:SPatL β} {g:Nat->β->Bool×AV} {G:β->Bool×AV} (hn:∀ n,OcOk P Inv f (ocOf pv (g n))) (hG:∀ b,(G b).1=true->∃ n,G b=g n b):OcOk P Inv f (ocOf pv G):=fun xs r e=>by
 unfold ocOf at e;split at e
 . rename_i b hb;simp only [z6] at e;obtain ⟨n,q⟩:=hG b (by rw [e])
   refine hn n xs r ?_;unfold ocOf;rw [hb,<-e,q]
 . simp at e
end Go.Sim
end
noncomputable section
namespace Go.Sim.M
open Go.RowKit Go.Proofs
def E0:Env:=(((Env.none.with 145 xi6).with 108 xlC).withM 131 xn5).withM 110 xjF
def xGc:xH8 Tryz.prog xIQ E0:=(((xzr.with xq6).with xtE).withM xww).withM xrD
end Go.Sim.M
end
noncomputable section
namespace Go.Sim
open Go.RowKit
def EncS {α:Type} (f:α->AV) (a:Option α) (b:Option AV):Prop:=∀ r,a=some r->∃ x,b=some x/\Sub x (f r)
def EncS.none {α:Type} {f:α->AV} {b:Option AV}:EncS f .none b:=fun r h=>by simp at h
def EncS.some {α:Type} {f:α->AV} {a:α} {b:AV} (h:Sub b (f a)):EncS f (Option.some a) (Option.some b):=fun r e=>by cases e;exact ⟨b,rfl,h⟩
def EncS.br {α:Type} {f:α->AV} {t:Bool} {a a':Option α} {b b':Option AV} (h1:EncS f a b) (h2:EncS f a' b'):EncS f (Sim.br t a a') (Sim.br t b b'):=by cases t<;>assumption
def xpI (sz:Nat) (x:AV):Sub (.tuple [.nils,x]) (.tuple [.list sz [],x]):=fun w A M v h=>by
 obtain ⟨vs,rfl,hs,hr⟩:=h.tuple_inv;refine .tuple vs _ hs fun i hi=>?_
 match i,hi with
 | 0,_=>exact xnw sz w A M _ (hr 0 (by simp))
 | 1,_=>exact hr 1 (by simp)
def Good.sub {P:Program} {Inv:IV} {f:FuncId} {args:List AV} {r r':AV} (h:Good P Inv f args r) (hs:Sub r r'):Good P Inv f args r' :=
 ⟨h.1,fun w A vs hI hA q=>(h.2 w A vs hI hA q).mono fun e w' ⟨v,he,hb,hr⟩=>⟨v,he,hb,hs w' A xIl v hr⟩⟩
def GoodM.bump1 {P:Program} {Inv:IV} {f:FuncId} {args:List AV} {H:List Box} {v v' k sz:Nat} {ty:TypeId} {xs:List AV} {frz pm:Bool} (O:isC ty=false) (hv:v<v')
  (h:GoodM P Inv f args H (.osl (.b 0) v 0 k) [⟨v,sz,ty,xs,frz,pm⟩]):GoodM P Inv f args H (.osl (.b 0) v' 0 k) [⟨v',sz,ty,xs,frz,pm⟩]:=by
 refine ⟨h.1,fun w0 w A M vs hI hB hR V=>(h.2 w0 w A M vs hI hB hR V).mono ?_⟩
 rintro e w' ⟨u,A',M',rfl,h1,h2,h3,h4,h5⟩;obtain ⟨m,g1,g2,g3,g4⟩:=Rel.osl_inv h5;obtain ⟨bx,q1,q2⟩:=h4.box _ m g1;have:bx=⟨v,sz,ty,xs,frz,pm⟩:=by
  have:=q1;rw [xbG] at this;simpa using this.symm
 subst this;have Q:v=m.ver:=q2.ver;have J:MExt M' (MSet M' (.b 0) ⟨m.b,v',m.sz,m.cap,m.ty⟩):=xm9 g1 (.inr (by simp only;omega))
 have D:∀ id m1,MSet M' (.b 0) ⟨m.b,v',m.sz,m.cap,m.ty⟩ id=some m1->∃ m0,M' id=some m0/\m1.b=m0.b/\m1.cap=m0.cap:=fun id m1 q=>by
  by_cases hi:id=.b 0
  . subst hi;simp [MSet] at q;subst q;exact ⟨m,g1,rfl,rfl⟩
  . exact ⟨m1,by simpa [MSet,hi] using q,rfl,rfl⟩
 have hR':HR w' A' (MSet M' (.b 0) ⟨m.b,v',m.sz,m.cap,m.ty⟩) w0.heap.size [⟨v',sz,ty,xs,frz,pm⟩]:=by
  refine ⟨fun id m1 q=>?_,fun id id' m1 m2 k1 k2 c1 c2 he=>?_,h4.lt⟩
  . by_cases hi:id=.b 0
    . subst hi;have:m1=⟨m.b,v',m.sz,m.cap,m.ty⟩:=by simp [MSet] at q;exact q.symm
      subst this;have q3:=q2.mono (w':=w') (fun _=>rfl) (fun _ _ _=>rfl) (zd _) (fun _ _ h=>h) q2.guard J
      exact ⟨⟨v',sz,ty,xs,frz,pm⟩,rfl,rfl,q3.sz,q3.ty,q3.capm,q3.fits,q3.ok,q3.low,q3.lt,q3.cells,q3.guard⟩
    . have W:M' id=some m1:=by simpa [MSet,hi] using q
      obtain ⟨bx,k1,k2⟩:=h4.box id m1 W;have k3:getB [⟨v',sz,ty,xs,frz,pm⟩] id=some bx:=by
       rw [<-k1];exact xc6 (H:=[⟨v,sz,ty,xs,frz,pm⟩]) (n:=0) (bx:=⟨v,sz,ty,xs,frz,pm⟩) (bx':=⟨v',sz,ty,xs,frz,pm⟩) rfl O O hi
      exact ⟨bx,k3,k2.mono (fun _=>rfl) (fun _ _ _=>rfl) (zd _) (fun _ _ h=>h) k2.guard J⟩
  . obtain ⟨n1,a1,a2,a3⟩:=D id m1 k1;obtain ⟨n2,b1,b2,b3⟩:=D id' m2 k2;exact h4.inj id id' n1 n2 a1 b1 (by omega) (by omega) (by rw [<-a2,<-b2,he])
 refine ⟨u,A',MSet M' (.b 0) ⟨m.b,v',m.sz,m.cap,m.ty⟩,rfl,h1,h2,h3.step ⟨zd _,fun _ _ _=>rfl,fun _ _ h=>h,fun _ _ h _=>h,J,⟨fun _ _ _=>rfl,fun id m1 q h0=>?_⟩⟩,hR',?_⟩
 . obtain ⟨n1,a1,a2,a3⟩:=D id m1 q;exact .inl ⟨id,n1,a1,by omega,a2⟩
 . exact .osl u (.b 0) v' 0 k ⟨m.b,v',m.sz,m.cap,m.ty⟩ (by simp [MSet]) (zd _) g3 fun _=>g4 Q
end Go.Sim
end
noncomputable section
namespace Go.Sim
open Go.RowKit Go.Proofs
noncomputable abbrev P0:Program:=Tryz.prog
section
variable {α β γ ρ σ : Type}
def qI:Pat AV Int:=pInt .i64
def qL (k:Nat):Pat AV (List AV):=xI8 k xIV
def qB {β:Type} (v s t:Nat) (q:Pat (List AV) β):Pat Box β:=xI5 v s t false true q
def bF (v s t:Nat) (x:List AV):Box:=⟨v,s,t,x,false,true⟩
def uI:SPat Int:=sEq qI
def uL (k:Nat):SPat (List AV):=xI6 k xIV
def q1 {α α0:Type} (a:Pat α α0):Pat (List α) (α0×Unit):=xIR a (xIT)
def q2 {α α0 α1:Type} (a:Pat α α0) (b:Pat α α1):Pat (List α) (α0×α1×Unit):=xIR a (xIR b (xIT))
def q3 {α α0 α1 α2:Type} (a:Pat α α0) (b:Pat α α1) (c:Pat α α2):Pat (List α) (α0×α1×α2×Unit):=xIR a (xIR b (xIR c (xIT)))
def q4 {α α0 α1 α2 α3:Type} (a:Pat α α0) (b:Pat α α1) (c:Pat α α2) (d:Pat α α3):Pat (List α) (α0×α1×α2×α3×Unit):=xIR a (xIR b (xIR c (xIR d (xIT))))
def q5 {α α0 α1 α2 α3 α4:Type} (a:Pat α α0) (b:Pat α α1) (c:Pat α α2) (d:Pat α α3) (e:Pat α α4):Pat (List α) (α0×α1×α2×α3×α4×Unit):=xIR a (xIR b (xIR c (xIR d (xIR e (xIT)))))
def q6 {α α0 α1 α2 α3 α4 α5:Type} (a:Pat α α0) (b:Pat α α1) (c:Pat α α2) (d:Pat α α3) (e:Pat α α4) (f:Pat α α5):Pat (List α) (α0×α1×α2×α3×α4×α5×Unit):=xIR a (xIR b (xIR c (xIR d (xIR e (xIR f (xIT))))))
def q7 {α α0 α1 α2 α3 α4 α5 α6:Type} (a:Pat α α0) (b:Pat α α1) (c:Pat α α2) (d:Pat α α3) (e:Pat α α4) (f:Pat α α5) (g:Pat α α6):Pat (List α) (α0×α1×α2×α3×α4×α5×α6×Unit):=xIR a (xIR b (xIR c (xIR d (xIR e (xIR f (xIR g (xIT)))))))
def q8 {α α0 α1 α2 α3 α4 α5 α6 α7:Type} (a:Pat α α0) (b:Pat α α1) (c:Pat α α2) (d:Pat α α3) (e:Pat α α4) (f:Pat α α5) (g:Pat α α6) (h:Pat α α7):Pat (List α) (α0×α1×α2×α3×α4×α5×α6×α7×Unit):=xIR a (xIR b (xIR c (xIR d (xIR e (xIR f (xIR g (xIR h (xIT))))))))
def q9 {α α0 α1 α2 α3 α4 α5 α6 α7 α8:Type} (a:Pat α α0) (b:Pat α α1) (c:Pat α α2) (d:Pat α α3) (e:Pat α α4) (f:Pat α α5) (g:Pat α α6) (h:Pat α α7) (i:Pat α α8):Pat (List α) (α0×α1×α2×α3×α4×α5×α6×α7×α8×Unit):=xIR a (xIR b (xIR c (xIR d (xIR e (xIR f (xIR g (xIR h (xIR i (xIT)))))))))
def q10 {α α0 α1 α2 α3 α4 α5 α6 α7 α8 α9:Type} (a:Pat α α0) (b:Pat α α1) (c:Pat α α2) (d:Pat α α3) (e:Pat α α4) (f:Pat α α5) (g:Pat α α6) (h:Pat α α7) (i:Pat α α8) (j:Pat α α9):Pat (List α) (α0×α1×α2×α3×α4×α5×α6×α7×α8×α9×Unit):=xIR a (xIR b (xIR c (xIR d (xIR e (xIR f (xIR g (xIR h (xIR i (xIR j (xIT))))))))))
def u1 {α0:Type} (a:SPat α0):SPatL (α0×Unit):=xIS a (xIU)
def u2 {α0 α1:Type} (a:SPat α0) (b:SPat α1):SPatL (α0×α1×Unit):=xIS a (xIS b (xIU))
def u3 {α0 α1 α2:Type} (a:SPat α0) (b:SPat α1) (c:SPat α2):SPatL (α0×α1×α2×Unit):=xIS a (xIS b (xIS c (xIU)))
def u4 {α0 α1 α2 α3:Type} (a:SPat α0) (b:SPat α1) (c:SPat α2) (d:SPat α3):SPatL (α0×α1×α2×α3×Unit):=xIS a (xIS b (xIS c (xIS d (xIU))))
def u5 {α0 α1 α2 α3 α4:Type} (a:SPat α0) (b:SPat α1) (c:SPat α2) (d:SPat α3) (e:SPat α4):SPatL (α0×α1×α2×α3×α4×Unit):=xIS a (xIS b (xIS c (xIS d (xIS e (xIU)))))
def u6 {α0 α1 α2 α3 α4 α5:Type} (a:SPat α0) (b:SPat α1) (c:SPat α2) (d:SPat α3) (e:SPat α4) (f:SPat α5):SPatL (α0×α1×α2×α3×α4×α5×Unit):=xIS a (xIS b (xIS c (xIS d (xIS e (xIS f (xIU))))))
def u7 {α0 α1 α2 α3 α4 α5 α6:Type} (a:SPat α0) (b:SPat α1) (c:SPat α2) (d:SPat α3) (e:SPat α4) (f:SPat α5) (g:SPat α6):SPatL (α0×α1×α2×α3×α4×α5×α6×Unit):=xIS a (xIS b (xIS c (xIS d (xIS e (xIS f (xIS g (xIU)))))))
def LR.okB:LR->Bool
 | .leaf e _ _=>match e with|.normal=>false|_=>true
 | .node _ a b=>a.okB&&b.okB
def LR.okB_ne:∀ {r:LR},r.okB=true->r.eval.1≠.normal
 | .leaf e _ _,h=>fun c=>by
  have c:e=.normal:=c;subst c;simp [LR.okB] at h
 | .node true a b,h=>LR.okB_ne (r:=a) (by simp only [LR.okB,zg] at h;exact h.1)
 | .node false a b,h=>LR.okB_ne (r:=b) (by simp only [LR.okB,zg] at h;exact h.2)
abbrev StT (σ ρ:Type):=σ->Option (σ⊕ρ)
def inL {σ ρ:Type} (s:σ):Option (σ⊕ρ):=some (.inl s)
def inR {σ ρ:Type} (p:ρ):Option (σ⊕ρ):=some (.inr p)
def ixI (l:List AV) (i:Int):Bool:=decide ((0:Int)<=i)&&decide (i<(↑l.length:Int))
def ixS (l:List AV) (i:Int) (s:Sh) (k:Nat):Bool:=decide (i.toNat<l.length)&&xH6 s ((l.getD i.toNat .top).cells.getD k .top)
def ixT (l:List AV) (i:Int) (n:Nat) (ss:List Sh) (k:Nat):Bool:=decide (i.toNat<l.length)&&((l.getD i.toNat .top).cells.length==n&&xId ss (l.getD i.toNat .top).cells k)
def gC (l:List AV) (i:Int) (k:Nat):AV:=(l.getD i.toNat .top).cells.getD k .top
def rmB (n:Nat) (l:List AV) (c z:Nat):Bool:=n==l.length&&(decide ((n+c)*z<=140737488355328)&&decide (n+c<=4611686018427387904))
abbrev RT:=Exit×List AV×List Box
abbrev HL (E:Env) (nt pin:Nat) (ls:List TypeId) (lp:List (Nat×Lp)) (fn:Func):Prop:=LoOk Tryz.prog (xIQ.at pin) (E.fn nt pin (lsOf ls) (xIu lp)) (fn.body.getD .skip)
abbrev FX (E:Env) (nt pin:Nat) (ls:List TypeId) (lp:List (Nat×Lp)) (fn:Func) (pv:SPatL β) (t:β->(T:Type)->T->(ρ->T)->T) (e:β->ρ->AV):Prop:=∀ b,XF Tryz.prog (E.fn nt pin (lsOf ls) (xIu lp)) fn (fn.body.getD .skip) (pv.enc b)=t b (Option AV) none fun p=>some (e b p)
abbrev FE (t:β->(T:Type)->T->(ρ->T)->T) (e:β->ρ->AV):Prop:=∀ b,Enc (e b) (t b (Option ρ) none some) (t b (Option AV) none fun p=>some (e b p))
abbrev MX (E:Env) (nt pin:Nat) (ls:List TypeId) (lp:List (Nat×Lp)) (fn:Func) (pv:SPatL β) (pb:Pat (List Box) γ) (t:β->γ->(T:Type)->T->(ρ->T)->T) (e:β->γ->ρ->AV×List Box):Prop:=∀ b c,XFM Tryz.prog (E.fn nt pin (lsOf ls) (xIu lp)) fn (fn.body.getD .skip) (pv.enc b) (pb.enc c)=t b c (Option (AV×List Box)) none fun p=>some (e b c p)
abbrev ME (t:β->γ->(T:Type)->T->(ρ->T)->T) (e:β->γ->ρ->AV×List Box):Prop:=∀ b c,Enc (e b c) (t b c (Option ρ) none some) (t b c (Option (AV×List Box)) none fun p=>some (e b c p))
abbrev TX (E:Env) (nt pin:Nat) (ls:List TypeId) (lp:List (Nat×Lp)) (fn:Func) (pv:SPatL β) (t:β->(ρ->Option AV)->Option AV) (e:β->ρ->AV):Prop:=∀ b,XF Tryz.prog (E.fn nt pin (lsOf ls) (xIu lp)) fn (fn.body.getD .skip) (pv.enc b)=t b fun p=>some (e b p)
noncomputable abbrev LX (E:Env) (nt pin:Nat) (ls:List TypeId) (lp:List (Nat×Lp)) (l:Code) (lv lo:List Nat) (cv:List (Nat×Nat×TypeId)) (pv:Pat (List AV) β) (pb:Pat (List Box) γ) (F:β->γ->(σ->Option (σ⊕ρ))×σ×(ρ->LR)) (G:β->γ->σ->(β×γ)×((σ->Option RT)->(ρ->Option RT)->Option RT)):Prop:=∀ b c s,XR Tryz.prog (E.fn nt pin (lsOf ls) (xIu lp)) lv lo cv l (pv.enc (G b c s).1.1) (pb.enc (G b c s).1.2)=(G b c s).2 (fun s=>some (encR (fun s=>(pv.enc (G b c s).1.1,pb.enc (G b c s).1.2)) (F b c).2.2 (.inl s))) fun p=>some (encR (fun s=>(pv.enc (G b c s).1.1,pb.enc (G b c s).1.2)) (F b c).2.2 (.inr p))
abbrev LE (pv:Pat (List AV) β) (pb:Pat (List Box) γ) (F:β->γ->(σ->Option (σ⊕ρ))×σ×(ρ->LR)) (G:β->γ->σ->(β×γ)×((σ->Option RT)->(ρ->Option RT)->Option RT)):Prop:=∀ b c s,Enc (encR (fun s=>(pv.enc (G b c s).1.1,pb.enc (G b c s).1.2)) (F b c).2.2) ((F b c).1 s) ((G b c s).2 (fun s=>some (encR (fun s=>(pv.enc (G b c s).1.1,pb.enc (G b c s).1.2)) (F b c).2.2 (.inl s))) fun p=>some (encR (fun s=>(pv.enc (G b c s).1.1,pb.enc (G b c s).1.2)) (F b c).2.2 (.inr p)))
def eV {f:α->β} {a:Option α} {b:Option β} (Y:Option β) (h:b=Y) (he:Enc f a Y):Enc f a b:=h▸he
abbrev LA:=List AV
def lkN {P:Program} {Inv:IV} {E:Env}:∀ c,c∈([]:List Code)->∀ lp,E.lp (xIm c)=some lp->LoopOk P Inv E.nt c lp:=fun c h=>by simp at h
def lkC {P:Program} {Inv:IV} {E:Env} {l:Code} {ls:List Code} {lp0:Lp} (hok:LoopOk P Inv E.nt l lp0) (ht:∀ c,c∈ls->∀ lp,E.lp (xIm c)=some lp->LoopOk P Inv E.nt c lp) (h:E.lp (xIm l)=some lp0:=by kernel_rfl):∀ c,c∈l::ls->∀ lp,E.lp (xIm c)=some lp->LoopOk P Inv E.nt c lp:=fun c hc lp hs=>by
 rcases zD.1 hc with rfl|hc
 . rw [h,z6] at hs;subst hs;exact hok
 . exact ht c hc lp hs
def eN {f:α->β} {b:Option β}:Enc f none b:=Enc.none
def eS {f:α->β} {a:α} {b:β} (h:b=f a):Enc f (some a) (some b):=Enc.some h
def eB {f:α->β} {t:Bool} {a a':Option α} {b b':Option β} (h1:Enc f a b) (h2:Enc f a' b'):Enc f (br t a a') (br t b b'):=Enc.br h1 h2
def fnO (pv:SPatL β) (t:β->(T:Type)->T->(ρ->T)->T) (e:β->ρ->AV) (d:ρ):List AV->Option (Bool×AV):=ocOf pv fun b=>((t b (Option ρ) none some).isSome,e b ((t b (Option ρ) none some).getD d))
def fmO (pv:SPatL β) (pb:Pat (List Box) γ) (t:β->γ->(T:Type)->T->(ρ->T)->T) (e:β->γ->ρ->AV×List Box) (d:ρ):List AV->List Box->Option (Bool×AV×List Box):=omOf pv pb fun b c=>((t b c (Option ρ) none some).isSome,e b c ((t b c (Option ρ) none some).getD d))
noncomputable def lpO (lv lo:List Nat) (cv:List (Nat×Nat×TypeId)) (pv:Pat (List AV) β) (pb:Pat (List Box) γ) (F:β->γ->(σ->Option (σ⊕ρ))×σ×(ρ->LR)) (d:ρ):Lp :=
 lpOf lv lo cv pv pb fun b c=>((Iter (F b c).1 (F b c).2.1).isSome,(F b c).2.2 ((Iter (F b c).1 (F b c).2.1).getD d))
section
variable {E : Env}
def Tot {α:Type} (e:ρ->α) (a:ρ) (x:Option α):Prop:=x=some (e a)
def eT {α:Type} {e:ρ->α} {t:Bool} {a b:ρ} {x y:Option α} (h1:Tot e a x) (h2:Tot e b y):Tot e (br t a b) (br t x y):=by cases t<;>assumption
def eU {α:Type} {e:ρ->α} {a:ρ} {x:α} (h:x=e a):Tot e a (some x):=congrArg some h
def ftO (pv:SPatL β) (f:β->ρ) (e:β->ρ->AV):List AV->Option (Bool×AV):=ocOf pv fun b=>(true,e b (f b))
def ftC (h:xH8 Tryz.prog xIQ E) {g:FuncId} {fn:Func} (hf:Tryz.prog.funcs[g]?=some fn) (nt pin:Nat) (ls:List TypeId) (lp:List (Nat×Lp)) {pv:SPatL β} {f:β->ρ} {e:β->ρ->AV}
  (hl:HL E nt pin ls lp fn) (t:β->(ρ->Option AV)->Option AV) (hx:TX E nt pin ls lp fn pv t e:=by intro b;kernel_rfl)
  (he:∀ b,Tot (e b) (f b) (t b fun p=>some (e b p)):=by intro b;repeat' first|apply eT|exact eU rfl)
  (hb:fn.body.isSome=true:=by exact rfl) (hn:(fn.name == "runtime.NumGoroutine")=false:=by kernel_rfl):OcOk Tryz.prog xIQ g (ftO pv f e):=xdB fun b r hh=>by
 obtain ⟨_,h2⟩:=Prod.mk.inj hh;subst h2;exact xfp (p:=pin) (xhu xIh (xIi Tryz.prog _) rfl h.fn hf hb hn hl ((hx b).trans (he b)))
def lk0 {Inv:IV} {c:Code} (h:xIr c=[]:=by kernel_rfl) (hc:((xIn c).all fun d=>(E.lp (condId d)).isNone)=true:=by kernel_rfl):LoOk Tryz.prog Inv E c:=xdY h hc
def lk1 {Inv:IV} {c l:Code} {lp0:Lp} (hok:LoopOk Tryz.prog Inv E.nt l lp0) (h:xIr c=[l]:=by kernel_rfl) (he:E.lp (xIm l)=some lp0:=by kernel_rfl) (hc:((xIn c).all fun d=>(E.lp (condId d)).isNone)=true:=by kernel_rfl):LoOk Tryz.prog Inv E c:=xgd h (lkC hok lkN he) hc
structure EO where
 E:Env
 ok:xH8 Tryz.prog xIQ E
def EO.w (e:EO) {g:FuncId} {o:List AV->Option (Bool×AV)} (c:OcOk Tryz.prog xIQ g o):EO:=⟨e.E.with g o,e.ok.with c⟩
def EO.wM (e:EO) {g:FuncId} {o:List AV->List Box->Option (Bool×AV×List Box)} (c:OmOk Tryz.prog xIQ g o):EO:=⟨e.E.withM g o,e.ok.withM c⟩
def fnC (h:xH8 Tryz.prog xIQ E) {g:FuncId} {fn:Func} (hf:Tryz.prog.funcs[g]?=some fn) (nt pin:Nat) (ls:List TypeId) (lp:List (Nat×Lp)) {pv:SPatL β} {t:β->(T:Type)->T->(ρ->T)->T} {e:β->ρ->AV} {d:ρ}
  (hl:HL E nt pin ls lp fn) (hx:FX E nt pin ls lp fn pv t e:=by intro b;kernel_rfl)
  (he:FE t e:=by intro b;repeat' first|apply eB|exact eN|exact eS rfl)
  (hb:fn.body.isSome=true:=by exact rfl) (hn:(fn.name == "runtime.NumGoroutine")=false:=by kernel_rfl):OcOk Tryz.prog xIQ g (fnO pv t e d):=xdB fun b r hh=>by
 obtain ⟨h1,h2⟩:=Prod.mk.inj hh;subst h2;exact xfp (p:=pin) (xhu xIh (xIi Tryz.prog _) rfl h.fn hf hb hn hl ((hx b).trans (he b _ (xaE h1))))
def fmC (h:xH8 Tryz.prog xIQ E) {g:FuncId} {fn:Func} (hf:Tryz.prog.funcs[g]?=some fn) (nt pin:Nat) (ls:List TypeId) (lp:List (Nat×Lp)) {pv:SPatL β} {pb:Pat (List Box) γ} {t:β->γ->(T:Type)->T->(ρ->T)->T} {e:β->γ->ρ->AV×List Box} {d:ρ}
  (hl:HL E nt pin ls lp fn) (hx:MX E nt pin ls lp fn pv pb t e:=by intro b c;kernel_rfl)
  (he:ME t e:=by intro b c;repeat' first|apply eB|exact eN|exact eS rfl)
  (hp:∀ c,(pb.enc c).length=pin:=by exact fun _=>rfl) (hb:fn.body.isSome=true:=by exact rfl) (hn:(fn.name == "runtime.NumGoroutine")=false:=by kernel_rfl):OmOk Tryz.prog xIQ g (fmO pv pb t e d):=xoI fun b c r H' hh=>by
 obtain ⟨h1,h2⟩:=Prod.mk.inj hh;exact xnR (p:=pin) (xnQ xIh (xIi Tryz.prog _) rfl h.fn (hp c) hf hb hn hl (((hx b c).trans (he b c _ (xaE h1))).trans (congrArg some h2)))
def lpC (h:xH8 Tryz.prog xIQ E) (nt pin:Nat) (ls:List TypeId) (lp:List (Nat×Lp)) {l:Code} {lv lo:List Nat} {cv:List (Nat×Nat×TypeId)} {pv:Pat (List AV) β} {pb:Pat (List Box) γ} {F:β->γ->(σ->Option (σ⊕ρ))×σ×(ρ->LR)} {d:ρ}
  (hl:LoOk Tryz.prog (xIQ.at pin) (E.fn nt pin (lsOf ls) (xIu lp)) l) (G:β->γ->σ->(β×γ)×((σ->Option RT)->(ρ->Option RT)->Option RT))
  (hx:LX E nt pin ls lp l lv lo cv pv pb F G:=by intro b c s;kernel_rfl)
  (he:LE pv pb F G:=by intro b c s;repeat' first|apply eB|exact eN|exact eS rfl)
  (hM:∀ b c,(G b c (F b c).2.1).1=(b,c):=by exact fun _ _=>rfl) (ho:∀ b c r,((F b c).2.2 r).okB=true:=by exact fun _ _ _=>rfl):LoopOk Tryz.prog (xIQ.at pin) nt l (lpO lv lo cv pv pb F d):=xm8 fun b c r hh=>by
 obtain ⟨h1,h2⟩:=Prod.mk.inj hh;subst h2;have:=xg4 xIh (xIi Tryz.prog _) rfl (h.fn (nt:=nt) (pin:=pin) (ls:=lsOf ls) (lp:=xIu lp)) hl (fun s=>(pv.enc (G b c s).1.1,pb.enc (G b c s).1.2)) (F b c).2.2 (fun p=>LR.okB_ne (ho b c p)) (fun s r hr=>(hx b c s).trans (he b c s r hr)) (xaE (d:=d) h1)
 dsimp only at this;rw [hM b c] at this;exact this
structure LO (pin nt:Nat) (l:Code) where
 lp:Lp
 ok:LoopOk Tryz.prog (xIQ.at pin) nt l lp
noncomputable def EO.f (x:EO) {g:FuncId} {fn:Func} (hf:Tryz.prog.funcs[g]?=some fn) (nt pin:Nat) (ls:List TypeId) (lp:List (Nat×Lp))
 (hl:HL x.E nt pin ls lp fn) (pv:SPatL β) (t:β->(T:Type)->T->(ρ->T)->T) (e:β->ρ->AV) (d:ρ) (hx:FX x.E nt pin ls lp fn pv t e:=by intro b;kernel_rfl)
 (he:FE t e:=by intro b;repeat' first|apply eB|exact eN|exact eS rfl)
 (hb:fn.body.isSome=true:=by exact rfl) (hn:(fn.name == "runtime.NumGoroutine")=false:=by kernel_rfl):EO:=x.w (fnC (d:=d) x.ok hf nt pin ls lp hl hx he hb hn)
noncomputable def EO.fM (x:EO) {g:FuncId} {fn:Func} (hf:Tryz.prog.funcs[g]?=some fn) (nt pin:Nat) (ls:List TypeId) (lp:List (Nat×Lp))
 (hl:HL x.E nt pin ls lp fn) (pv:SPatL β) (pb:Pat (List Box) γ) (t:β->γ->(T:Type)->T->(ρ->T)->T) (e:β->γ->ρ->AV×List Box) (d:ρ) (hx:MX x.E nt pin ls lp fn pv pb t e:=by intro b c;kernel_rfl)
 (he:ME t e:=by intro b c;repeat' first|apply eB|exact eN|exact eS rfl)
 (hp:∀ c,(pb.enc c).length=pin:=by exact fun _=>rfl) (hb:fn.body.isSome=true:=by exact rfl) (hn:(fn.name == "runtime.NumGoroutine")=false:=by kernel_rfl):EO:=x.wM (fmC (d:=d) x.ok hf nt pin ls lp hl hx he hp hb hn)
noncomputable def EO.fT (x:EO) {g:FuncId} {fn:Func} (hf:Tryz.prog.funcs[g]?=some fn) (nt pin:Nat) (ls:List TypeId) (lp:List (Nat×Lp))
 (hl:HL x.E nt pin ls lp fn) (t:β->(ρ->Option AV)->Option AV) (pv:SPatL β) (f:β->ρ) (e:β->ρ->AV) (hx:TX x.E nt pin ls lp fn pv t e:=by intro b;kernel_rfl)
 (he:∀ b,Tot (e b) (f b) (t b fun p=>some (e b p)):=by intro b;repeat' first|apply eT|exact eU rfl)
 (hb:fn.body.isSome=true:=by exact rfl) (hn:(fn.name == "runtime.NumGoroutine")=false:=by kernel_rfl):EO:=x.w (ftC x.ok hf nt pin ls lp hl t hx he hb hn)
noncomputable def EO.l (x:EO) (nt pin:Nat) (ls:List TypeId) (lp:List (Nat×Lp)) (fn:Func) (k:Nat) (hl:LoOk Tryz.prog (xIQ.at pin) (x.E.fn nt pin (lsOf ls) (xIu lp)) (xIc fn k)) (lv lo:List Nat) (cv:List (Nat×Nat×TypeId)) (pv:Pat (List AV) β) (pb:Pat (List Box) γ) (F:β->γ->(σ->Option (σ⊕ρ))×σ×(ρ->LR)) (d:ρ)
 (G:β->γ->σ->(β×γ)×((σ->Option RT)->(ρ->Option RT)->Option RT))
 (hx:LX x.E nt pin ls lp (xIc fn k) lv lo cv pv pb F G:=by intro b c s;kernel_rfl)
 (he:LE pv pb F G:=by intro b c s;repeat' first|apply eB|exact eN|exact eS rfl)
 (hM:∀ b c,(G b c (F b c).2.1).1=(b,c):=by exact fun _ _=>rfl) (ho:∀ b c r,((F b c).2.2 r).okB=true:=by exact fun _ _ _=>rfl):LO pin nt (xIc fn k):=⟨lpO lv lo cv pv pb F d,lpC x.ok nt pin ls lp hl G hx he hM ho⟩
def lks {Inv:IV} {c:Code} {ls:List Code} (hl:∀ l,l∈ls->∀ lp,E.lp (xIm l)=some lp->LoopOk Tryz.prog Inv E.nt l lp) (h:xIr c=ls:=by kernel_rfl) (hc:((xIn c).all fun d=>(E.lp (condId d)).isNone)=true:=by kernel_rfl):LoOk Tryz.prog Inv E c:=xgd h hl hc
end
end
end Go.Sim
end
noncomputable section
namespace Go.Sim
def sUF:(∀ {σ ρ:Type} (s:σ),(inL s:Option (σ⊕ρ))=some (.inl s))/\(∀ {σ ρ:Type} (p:ρ),(inR p:Option (σ⊕ρ))=some (.inr p))/\(∀ (l:List AV) (i:Int),ixI l i=(decide ((0:Int)<=i)&&decide (i<(↑l.length:Int))))/\(∀ (l:List AV) (i:Int) (s:Sh) (k:Nat),ixS l i s k=(decide (i.toNat<l.length)&&xH6 s ((l.getD i.toNat .top).cells.getD k .top)))/\(∀ (l:List AV) (i:Int) (n:Nat) (ss:List Sh) (k:Nat),ixT l i n ss k=(decide (i.toNat<l.length)&&((l.getD i.toNat .top).cells.length==n&&xId ss (l.getD i.toNat .top).cells k)))/\(∀ (l:List AV) (i:Int) (k:Nat),gC l i k=(l.getD i.toNat .top).cells.getD k .top)/\(∀ (n:Nat) (l:List AV) (c z:Nat),rmB n l c z=(n==l.length&&(decide ((n+c)*z<=140737488355328)&&decide (n+c<=4611686018427387904)))) :=
 ⟨fun _=>rfl,fun _=>rfl,fun _ _=>rfl,fun _ _ _ _=>rfl,fun _ _ _ _ _=>rfl,fun _ _ _=>rfl,fun _ _ _ _=>rfl⟩
def sBU:((∀ {α β:Type} {l:List α} (f:α->β),(l.map f).length=l.length)/\(∀ {T:Type} {a b:T},br true a b=a)/\(∀ {T:Type} {a b:T},br false a b=b)/\(∀ (h:Decidable True),@decide True h=true)/\(∀ (h:Decidable False),@decide False h=false) /\
  (∀ b:Bool,(b&&true)=b)/\(∀ b:Bool,(true&&b)=b)/\((!true)=false)/\((!false)=true)/\(∀ n:Nat,(n:Int).toNat=n)/\(∀ n:Nat,(0:Int)<=(n:Int))/\(∀ {α:Type} {a:α},(some a).isSome=true)/\(∀ {α:Type} {a b:α},(some a).getD b=a) /\
  (∀ {α:Type} [BEq α] [ReflBEq α] (a:α),(a==a)=true)/\(∀ n:Nat,0+n=n)/\(∀ n:Nat,n - 0=n))/\(∀ {σ ρ:Type} (s:σ),(inL s:Option (σ⊕ρ))=some (.inl s))/\(∀ {σ ρ:Type} (p:ρ),(inR p:Option (σ⊕ρ))=some (.inr p))/\(∀ (l:List AV) (i:Int),ixI l i=(decide ((0:Int)<=i)&&decide (i<(↑l.length:Int))))/\(∀ (l:List AV) (i:Int) (s:Sh) (k:Nat),ixS l i s k=(decide (i.toNat<l.length)&&xH6 s ((l.getD i.toNat .top).cells.getD k .top)))/\(∀ (l:List AV) (i:Int) (n:Nat) (ss:List Sh) (k:Nat),ixT l i n ss k=(decide (i.toNat<l.length)&&((l.getD i.toNat .top).cells.length==n&&xId ss (l.getD i.toNat .top).cells k)))/\(∀ (l:List AV) (i:Int) (k:Nat),gC l i k=(l.getD i.toNat .top).cells.getD k .top)/\(∀ (n:Nat) (l:List AV) (c z:Nat),rmB n l c z=(n==l.length&&(decide ((n+c)*z<=140737488355328)&&decide (n+c<=4611686018427387904)))) :=
 ⟨⟨za,rfl,rfl,fun h=>by simp,fun h=>by simp,zT,Bool.true_and,rfl,rfl,zO,Int.natCast_nonneg,rfl,rfl,fun a=>beq_self_eq_true a,zI,Nat.sub_zero⟩,sUF⟩
def sOO:(∀ {α:Type} {l:List α},l.drop 0=l)/\(∀ {α:Type} {l:List α} {i:Nat},l.length<=i->l.take i=l)/\(∀ n:Nat,0+n=n)/\(∀ {α β:Type} {l:List α} (f:α->β),(l.map f).length=l.length)/\(∀ n:Nat,n<=n)/\(∀ (h:Decidable True),@decide True h=true)/\(∀ b:Bool,(b&&true)=b)/\(∀ {T:Type} {a b:T},br true a b=a) /\
  (∀ {α:Type} {a:α},(some a).isSome=true)/\(∀ {α:Type} {a b:α},(some a).getD b=a) :=
 ⟨zt,zj,zI,za,zd,fun h=>by simp,zT,rfl,rfl,rfl⟩
end Go.Sim
noncomputable def Go.Sim.M.xGb:Go.Sim.EO:=Go.Sim.EO.mk Go.Sim.M.E0 Go.Sim.M.xGc
end
noncomputable section
set_option maxRecDepth 100000
namespace Go.Sim.M
open Go.IntKind (i64 u64 u8)
open Go.RowKit Go.Proofs
def xbP {T:Type} (a:List UInt8) (δ:T) (κ:Int×Nat×LA->T):T:=br (decide ((byteAVs a).length*1<=140737488355328)&&decide ((byteAVs a).length<=4611686018427387904)) (κ ((↑a.length:Int),(byteAVs a).length,byteAVs a)) δ
def xao (a:List UInt8):=xbP a none some
def xGe:EO:=xGb.fM Tryz.func107 19 1 [] [] lk0 (u2 (sEq (xI3 0 0 0 0)) (sEq pStr)) (q1 (qB 0 2 150 (q1 (xI4 (q2 pNilptr pNils))))) (fun (_,a,_) (((_,_,_),_),_) _=>xbP a) (fun _ _ p=>(AV.tuple [AV.int .i64 p.1,.top],([⟨0,2,150,[AV.agg [AV.own 0 0 0 0,AV.osl 1 0 0 p.2.1]],false,false⟩,bF 0 1 5 p.2.2]:List Box))) (0,0,[])
def xc1 {T:Type} (a:List UInt8) (n:Nat) (b:LA) (δ:T) (κ:Int×Nat×LA->T):T:=br (n==b.length&&(decide ((n+(byteAVs a).length)*1<=140737488355328)&&decide (n+(byteAVs a).length<=4611686018427387904))) (κ ((↑a.length:Int),n+(byteAVs a).length,b++byteAVs a)) δ
def xal (a:List UInt8) (n:Nat) (b:LA):=xc1 a n b none some
def xGf:EO:=xGe.fM Tryz.func107 19 2 [] [] lk0 (u2 (sEq (xI3 0 0 0 0)) (sEq pStr)) (q2 (xI5 0 2 150 false false (q1 (xI4 (q2 (xI3 0 0 0 0) (xI2 1 0 0))))) (qB 0 1 5 xIV)) (fun (_,a,_) (((_,n,_),_),b,_) _=>xc1 a n b) (fun _ _ p=>(AV.tuple [AV.int .i64 p.1,.top],([⟨0,2,150,[AV.agg [AV.own 0 0 0 0,AV.osl 1 1 0 p.2.1]],false,false⟩,bF 1 1 5 p.2.2]:List Box))) (0,0,[])
def xjS {T:Type} (a:List UInt8) (n:Nat) (b:LA) (δ:T) (κ:Int×Nat×LA->T):T:=br (n==b.length&&(decide ((n+(byteAVs a).length)*1<=140737488355328)&&decide (n+(byteAVs a).length<=4611686018427387904))) (κ ((↑a.length:Int),n+(byteAVs a).length,b++byteAVs a)) δ
def xyR:EO:=xGf.fM Tryz.func107 19 2 [] [] lk0 (u2 (sEq (xI3 0 0 0 0)) (sEq pStr)) (q2 (xI5 0 2 150 false false (q1 (xI4 (q2 (xI3 0 0 0 0) (xI2 1 1 0))))) (qB 1 1 5 xIV)) (fun (_,a,_) (((_,n,_),_),b,_) _=>xjS a n b) (fun _ _ p=>(AV.tuple [AV.int .i64 p.1,.top],([⟨0,2,150,[AV.agg [AV.own 0 0 0 0,AV.osl 1 2 0 p.2.1]],false,false⟩,bF 2 1 5 p.2.2]:List Box))) (0,0,[])
def xaW:Env:=xyR.E.fn 17 1 (lsOf []) (xIu [])
def xjj:xH8 P0 (xIQ.at 1) xaW:=xyR.ok.fn
def xiy:LoOk P0 (xIQ.at xaW.pin) xaW (Tryz.f109.body.getD .skip):=xdY (by kernel_rfl)
def xew (c:Int):Int:=((c))
def xfI (c:Int):Bool:=true
def xgl {T:Type} (c:Int) (δ:T) (κ:Int->T):T:=κ (c)
def xld (c:Int):Pre (xfI c) (XFM P0 xaW Tryz.f109 (Tryz.f109.body.getD .skip) [AV.own (0:Id) 0 0 0,AV.int .u8 c] [{ ver:=0,sz:=2,ty:=(150:TypeId),xs:=[AV.agg [AV.nilptr,AV.nils]],frz:=false,pm:=true }]) ((.top,([⟨0,2,150,[AV.agg [AV.own 0 0 0 0,AV.osl 1 0 0 1]],false,false⟩,⟨0,1,5,[AV.int .u8 (xew c)],false,true⟩]:List Box))):=by
 have h:XFM P0 xaW Tryz.f109 (Tryz.f109.body.getD .skip) [AV.own (0:Id) 0 0 0,AV.int .u8 c] [{ ver:=0,sz:=2,ty:=(150:TypeId),xs:=[AV.agg [AV.nilptr,AV.nils]],frz:=false,pm:=true }]=xgl c none (fun (p:Int)=>some (((.top,([⟨0,2,150,[AV.agg [AV.own 0 0 0 0,AV.osl 1 0 0 1]],false,false⟩,⟨0,1,5,[AV.int .u8 p],false,true⟩]:List Box))):(AV×List Box))):=by kernel_rfl
 rw [h];unfold xew xfI xgl;repeat' (first|exact Pre.none|exact Pre.tt rfl|exact Pre.some rfl|refine Pre.l ?_|refine Pre.r ?_|refine Pre.br (f:=fun (p:Int)=>(((.top,([⟨0,2,150,[AV.agg [AV.own 0 0 0 0,AV.osl 1 0 0 1]],false,false⟩,⟨0,1,5,[AV.int .u8 p],false,true⟩]:List Box))):(AV×List Box))) ?_ ?_|refine Pre.brt (f:=fun (p:Int)=>(((.top,([⟨0,2,150,[AV.agg [AV.own 0 0 0 0,AV.osl 1 0 0 1]],false,false⟩,⟨0,1,5,[AV.int .u8 p],false,true⟩]:List Box))):(AV×List Box))) ?_ ?_)
def xlc:LA->List Box->Option (Bool×AV×List Box):=omOf (xIS (sEq (xI3 0 0 0 0)) (xIS (sEq (pInt .u8)) xIU)) (xIR (xI5 0 2 (150:TypeId) false true (xIR (xI4 (xIR pNilptr (xIR pNils xIT))) xIT)) xIT) fun (_,(c,_)) (((_,(_,_)),_),_)=>(true,((.top,([⟨0,2,150,[AV.agg [AV.own 0 0 0 0,AV.osl 1 0 0 1]],false,false⟩,⟨0,1,5,[AV.int .u8 (xew c)],false,true⟩]:List Box))))
def xlb:OmOk P0 xIQ 109 (xlc):=xoI fun b d h f e=>by
 obtain ⟨_,⟨c,_⟩⟩:=b;obtain ⟨⟨⟨_,⟨_,_⟩⟩,_⟩,_⟩:=d;obtain ⟨g,a⟩:=Prod.mk.inj e;refine xnR (p:=xaW.pin) (xnQ xIh (xIi P0 _) rfl xjj rfl Tryz.func109 rfl (by kernel_rfl) xiy ((Pre.get (xld _) rfl).trans ?_))
 exact congrArg some a
def xGg:EO:=xyR.wM xlb
def xgb {T:Type} (c:Int) (n:Nat) (a:LA) (δ:T) (κ:Nat×LA->T):T:=br (rmB n a 1 1) (κ (n+1,a++[AV.int .u8 c])) δ
def xcr (c:Int) (n:Nat) (a:LA):=xgb c n a none some
def xGh:EO:=xGg.fM Tryz.func109 17 2 [] [] lk0 (u2 (sEq (xI3 0 0 0 0)) (sEq (pInt .u8))) (q2 (xI5 0 2 150 false false (q1 (xI4 (q2 (xI3 0 0 0 0) (xI2 1 0 0))))) (qB 0 1 5 xIV)) (fun (_,c,_) (((_,n,_),_),a,_) _=>xgb c n a) (fun _ _ p=>(.top,([⟨0,2,150,[AV.agg [AV.own 0 0 0 0,AV.osl 1 1 0 p.1]],false,false⟩,bF 1 1 5 p.2]:List Box))) (0,[])
def xdz {T:Type} (c:Int) (n:Nat) (a:LA) (δ:T) (κ:Nat×LA->T):T:=br (rmB n a 1 1) (κ (n+1,a++[AV.int .u8 c])) δ
def xcs (c:Int) (n:Nat) (a:LA):=xdz c n a none some
def xGi:EO:=xGh.fM Tryz.func109 17 2 [] [] lk0 (u2 (sEq (xI3 0 0 0 0)) (sEq (pInt .u8))) (q2 (xI5 0 2 150 false false (q1 (xI4 (q2 (xI3 0 0 0 0) (xI2 1 1 0))))) (qB 1 1 5 xIV)) (fun (_,c,_) (((_,n,_),_),a,_) _=>xdz c n a) (fun _ _ p=>(.top,([⟨0,2,150,[AV.agg [AV.own 0 0 0 0,AV.osl 1 2 0 p.1]],false,false⟩,bF 2 1 5 p.2]:List Box))) (0,[])
def xaO (a b:Int):Bool:=(br (decide (a>=0)) (br (decide (a<b)) ((decide (b<=1099511627776))) ((false))) ((false)))
def xtu {T:Type} (a b:Int) (δ:T) (κ:Bool->T):T:=br (decide (a>=0)) (br (decide (a<b)) (κ (decide (b<=1099511627776))) (κ (false))) (κ (false))
def xyS:EO:=xGi.fT Tryz.func46 18 0 [] [] lk0 (fun ((a,b,_),_)=>xtu a b none) (u1 (xI7 (u2 uI uI))) (fun ((a,b,_),_)=>xaO a b) (fun _ p=>(AV.bool p))
def xec (b:Int) (a:LA):=((a.getD (0+b.toNat) .top).cells.getD 0 .top).toInt
def xh6 (d:Int) (c:Nat) (b a:LA):=((xal (Lib.itoa (xec d b)) c a).getD (0,0,[])).snd
def xh5 (d:Int) (c:Nat) (b a:LA):=xcs 32 (xh6 d c b a).fst (xh6 d c b a).snd
def xh4 (d:Int) (c:Nat) (b a:LA):=(xh5 d c b a).getD (0,[])
def xgn {T:Type} (k:LA) (l j:Int) (e:Nat) (i c:Int) (d:Nat) (f g:Int) (h:List UInt8) (a b:LA) (δ:T) (κl:(Int×Nat×Int×Int×List UInt8×LA×LA)->T) (κr:(Nat×Int×Int×List UInt8×LA)->T):T:=br (decide (c<i)) (br (decide (0<=c)&&decide (c<(↑e:Int))) (br (decide (0+c.toNat<a.length)&&xH6 (Sh.int .i64) ((a.getD (0+c.toNat) .top).cells.getD 0 .top)) (br (decide ((-9223372036854775808)<=xec c a)&&decide (xec c a<=9223372036854775807)) (br ((xal (Lib.itoa (xec c a)) d b).isSome) (br ((xh5 c d a b).isSome) (κl (i64.wrap (c+1),(xh4 c d a b).fst,f,g,h,a,(xh4 c d a b).snd)) δ) δ) δ) δ) δ) (κr (d,f,g,h,b))
def xa0 (k:LA) (l e:Int) (c:Nat) (f:Int):StT (Int×Nat×Int×Int×List UInt8×LA×LA) (Nat×Int×Int×List UInt8×LA):=fun (g,d,h,i,j,b,a)=>xgn k l e c f g d h i j b a none inL inR
def xfR:=xyS.l 37 0 [] [] Tryz.f83 1 lk0 [3,5,8,9,10,21,22,23] [3,5,8,9,10] [] (q8 (xI3 0 0 0 0) (xI3 1 0 0 0) (qL 3) qI qI (xI2 2 0 0) qI qI) (q4 (xI5 0 2 150 false false (q1 (xI4 (q2 (xI3 0 0 0 0) (xI2 3 0 0))))) (qB 0 3 27 (q1 (xI4 (q3 qI qI pStr)))) (qB 0 1 3 xIV) (qB 0 1 5 xIV)) (fun (_,_,k,m,e,c,f,g,_) (((_,d,_),_),((h,i,j,_),_),b,a,_)=>(xa0 k m e c f,(g,d,h,i,j,b,a),fun p=>(.leaf (.exit 2) [AV.own 0 0 0 0,AV.own 1 0 0 0,AV.list 3 k,AV.int .i64 m,AV.int .i64 e] [⟨0,2,150,[AV.agg [AV.own 0 0 0 0,AV.osl 2 0 0 p.1]],false,false⟩,bF 0 3 27 [AV.agg [AV.int .i64 p.2.1,AV.int .i64 p.2.2.1,AV.str p.2.2.2.1]],bF 0 1 5 p.2.2.2.2]))) (0,0,0,[],[]) fun (_,_,k,m,e,c,f,_,_) _ (g,d,h,i,j,b,a)=>((((),(),k,m,e,c,f,g,()),((((),d,()),()),((h,i,j,()),()),b,a,())),xgn k m e c f g d h i j b a none)
def xh3 (b:LA) (e a:Int) (d:Nat) (c:LA):=Iter (xa0 b e a 3 3) (0,d,(gC b a 0).toInt,(gC b a 1).toInt,(gC b a 2).toStr,[AV.int .i64 (gC b a 0).toInt,AV.int .i64 (gC b a 1).toInt,AV.int .i64 (↑(gC b a 2).toStr.length:Int)],c)
def xfQ (d:LA) (e c:Int) (b:Nat) (a:LA):=(xh3 d e c b a).getD (0,0,0,[],[])
def xh2 (d:LA) (e c:Int) (b:Nat) (a:LA):=xal ((xfQ d e c b a).snd.snd.snd).fst (xfQ d e c b a).fst ((xfQ d e c b a).snd.snd.snd).snd
def xh1 (d:LA) (e c:Int) (b:Nat) (a:LA):=((xh2 d e c b a).getD (0,0,[])).snd
def xgm {T:Type} (d:LA) (e b:Int) (c:Nat) (a:LA) (δ:T) (κl:(Int×Nat×LA)->T) (κr:(Nat×LA)->T):T:=br (decide (b<e)) (br (ixI d b) (br (ixT d b 3 [Sh.int .i64,Sh.int .i64,Sh.str] 0) (br ((xh3 d e b c a).isSome) (br ((xh2 d e b c a).isSome) (κl (i64.wrap (b+1),(xh1 d e b c a).fst,(xh1 d e b c a).snd)) δ) δ) δ) δ) (κr (c,a))
def xcg (d:LA) (e:Int):StT (Int×Nat×LA) (Nat×LA):=fun (c,b,a)=>xgm d e c b a none inL inR
def xlX:=xyS.l 37 0 [] [(6,xfR.lp)] Tryz.f83 0 (lk1 xfR.ok) [3,8,9,10] [3] [] (q4 (xI3 0 0 0 0) (qL 3) qI qI) (q2 (xI5 0 2 150 false false (q1 (xI4 (q2 (xI3 0 0 0 0) (xI2 1 0 0))))) (qB 0 1 5 xIV)) (fun (_,d,e,c,_) (((_,b,_),_),a,_)=>(xcg d e,(c,b,a),fun p=>(.leaf (.exit 0) [AV.own 0 0 0 0] [⟨0,2,150,[AV.agg [AV.own 0 0 0 0,AV.osl 1 0 0 p.1]],false,false⟩,bF 0 1 5 p.2]))) (0,[]) fun (_,d,e,_,_) _ (c,b,a)=>((((),d,e,c,()),((((),b,()),()),a,())),xgm d e c b a none)
def xb0 (a:LA):=((a.getD 0 .top).cells.getD 0 .top).toInt
def xki (a:LA):=xcr 32 ((xao (Lib.itoa (xb0 a))).getD (0,0,[])).snd.fst ((xao (Lib.itoa (xb0 a))).getD (0,0,[])).snd.snd
def xkh (a:LA):=(xki a).getD (0,[])
def xkg (a:LA):=Iter (xa0 a (↑a.length:Int) 0 3 3) (1,(xkh a).fst,xb0 a,((a.getD 0 .top).cells.getD 1 .top).toInt,((a.getD 0 .top).cells.getD 2 .top).toStr,[AV.int .i64 (xb0 a),AV.int .i64 ((a.getD 0 .top).cells.getD 1 .top).toInt,AV.int .i64 (↑((a.getD 0 .top).cells.getD 2 .top).toStr.length:Int)],(xkh a).snd)
def xhG (a:LA):=(xkg a).getD (0,0,0,[],[])
def xkf (a:LA):=xal ((xhG a).snd.snd.snd).fst (xhG a).fst ((xhG a).snd.snd.snd).snd
def xke (a:LA):=((xkf a).getD (0,0,[])).snd
def xkd (a:LA):=Iter (xcg a (↑a.length:Int)) (1,(xke a).fst,(xke a).snd)
def xeC (a:LA):=(xkd a).getD (0,[])
def xln {T:Type} (a:LA) (δ:T) (κ:List UInt8->T):T:=br (decide (0<(↑a.length:Int))) (br (decide (0<(↑a.length:Int))) (br (decide (0<a.length)&&((a.getD 0 .top).cells.length==3&&xId [Sh.int .i64,Sh.int .i64,Sh.str] (a.getD 0 .top).cells 0)) (br (decide ((-9223372036854775808)<=xb0 a)&&decide (xb0 a<=9223372036854775807)) (br ((xao (Lib.itoa (xb0 a))).isSome) (br ((xki a).isSome) (br ((xkg a).isSome) (br ((xkf a).isSome) (br ((xkd a).isSome) (br (decide ((xeC a).fst=((xeC a).snd).length)&&isBytes ((xeC a).snd)&&decide (((xeC a).snd).length≠0)) (κ (strOf ((xeC a).snd))) δ) δ) δ) δ) δ) δ) δ) δ) δ) (κ ([]))
def xh0 (a:LA):=xln a none some
def xyT:EO:=xyS.f Tryz.func83 37 0 [] [(6,xfR.lp),(3,xlX.lp)] (lks (lkC xlX.ok (lkC xfR.ok lkN))) (u1 (uL 3)) (fun (a,_) _=>xln a) (fun _ p=>AV.str p) []
def xf7 (b:Int) (a:LA):=((a.getD (0+b.toNat) .top).cells.getD 0 .top).toInt
def xk2 (d:Int) (c:Nat) (b a:LA):=((xal (Lib.itoa (xf7 d b)) c a).getD (0,0,[])).snd
def xk1 (d:Int) (c:Nat) (b a:LA):=xcs 32 (xk2 d c b a).fst (xk2 d c b a).snd
def xk0 (d:Int) (c:Nat) (b a:LA):=(xk1 d c b a).getD (0,[])
def xiN {T:Type} (k:LA) (l j:Int) (e:Nat) (i c:Int) (d:Nat) (f g:Int) (h:List UInt8) (a b:LA) (δ:T) (κl:(Int×Nat×Int×Int×List UInt8×LA×LA)->T) (κr:(Nat×Int×Int×List UInt8×LA)->T):T:=br (decide (c<i)) (br (decide (0<=c)&&decide (c<(↑e:Int))) (br (decide (0+c.toNat<a.length)&&xH6 (Sh.int .i64) ((a.getD (0+c.toNat) .top).cells.getD 0 .top)) (br (decide ((-9223372036854775808)<=xf7 c a)&&decide (xf7 c a<=9223372036854775807)) (br ((xal (Lib.itoa (xf7 c a)) d b).isSome) (br ((xk1 c d a b).isSome) (κl (i64.wrap (c+1),(xk0 c d a b).fst,f,g,h,a,(xk0 c d a b).snd)) δ) δ) δ) δ) δ) (κr (d,f,g,h,b))
def xbt (k:LA) (l e:Int) (c:Nat) (f:Int):StT (Int×Nat×Int×Int×List UInt8×LA×LA) (Nat×Int×Int×List UInt8×LA):=fun (g,d,h,i,j,b,a)=>xiN k l e c f g d h i j b a none inL inR
def xhU:=xyT.l 37 0 [] [] Tryz.f76 1 lk0 [3,5,8,9,10,21,22,23] [3,5,8,9,10] [] (q8 (xI3 0 0 0 0) (xI3 1 0 0 0) (qL 3) qI qI (xI2 2 0 0) qI qI) (q4 (xI5 0 2 150 false false (q1 (xI4 (q2 (xI3 0 0 0 0) (xI2 3 0 0))))) (qB 0 3 27 (q1 (xI4 (q3 qI qI pStr)))) (qB 0 1 3 xIV) (qB 0 1 5 xIV)) (fun (_,_,k,m,e,c,f,g,_) (((_,d,_),_),((h,i,j,_),_),b,a,_)=>(xbt k m e c f,(g,d,h,i,j,b,a),fun p=>(.leaf (.exit 2) [AV.own 0 0 0 0,AV.own 1 0 0 0,AV.list 3 k,AV.int .i64 m,AV.int .i64 e] [⟨0,2,150,[AV.agg [AV.own 0 0 0 0,AV.osl 2 0 0 p.1]],false,false⟩,bF 0 3 27 [AV.agg [AV.int .i64 p.2.1,AV.int .i64 p.2.2.1,AV.str p.2.2.2.1]],bF 0 1 5 p.2.2.2.2]))) (0,0,0,[],[]) fun (_,_,k,m,e,c,f,_,_) _ (g,d,h,i,j,b,a)=>((((),(),k,m,e,c,f,g,()),((((),d,()),()),((h,i,j,()),()),b,a,())),xiN k m e c f g d h i j b a none)
def xkx (b:LA) (e a:Int) (d:Nat) (c:LA):=Iter (xbt b e a 3 3) (0,d,(gC b a 0).toInt,(gC b a 1).toInt,(gC b a 2).toStr,[AV.int .i64 (gC b a 0).toInt,AV.int .i64 (gC b a 1).toInt,AV.int .i64 (↑(gC b a 2).toStr.length:Int)],c)
def xhT (d:LA) (e c:Int) (b:Nat) (a:LA):=(xkx d e c b a).getD (0,0,0,[],[])
def xkZ (d:LA) (e c:Int) (b:Nat) (a:LA):=xal ((xhT d e c b a).snd.snd.snd).fst (xhT d e c b a).fst ((xhT d e c b a).snd.snd.snd).snd
def xkY (d:LA) (e c:Int) (b:Nat) (a:LA):=((xkZ d e c b a).getD (0,0,[])).snd
def xiM {T:Type} (d:LA) (e b:Int) (c:Nat) (a:LA) (δ:T) (κl:(Int×Nat×LA)->T) (κr:(Nat×LA)->T):T:=br (decide (b<e)) (br (ixI d b) (br (ixT d b 3 [Sh.int .i64,Sh.int .i64,Sh.str] 0) (br ((xkx d e b c a).isSome) (br ((xkZ d e b c a).isSome) (κl (i64.wrap (b+1),(xkY d e b c a).fst,(xkY d e b c a).snd)) δ) δ) δ) δ) (κr (c,a))
def xdF (d:LA) (e:Int):StT (Int×Nat×LA) (Nat×LA):=fun (c,b,a)=>xiM d e c b a none inL inR
def xn2:=xyT.l 37 0 [] [(6,xhU.lp)] Tryz.f76 0 (lk1 xhU.ok) [3,8,9,10] [3] [] (q4 (xI3 0 0 0 0) (qL 3) qI qI) (q2 (xI5 0 2 150 false false (q1 (xI4 (q2 (xI3 0 0 0 0) (xI2 1 0 0))))) (qB 0 1 5 xIV)) (fun (_,d,e,c,_) (((_,b,_),_),a,_)=>(xdF d e,(c,b,a),fun p=>(.leaf (.exit 0) [AV.own 0 0 0 0] [⟨0,2,150,[AV.agg [AV.own 0 0 0 0,AV.osl 1 0 0 p.1]],false,false⟩,bF 0 1 5 p.2]))) (0,[]) fun (_,d,e,_,_) _ (c,b,a)=>((((),d,e,c,()),((((),b,()),()),a,())),xiM d e c b a none)
def xdI (a:LA):=((a.getD 0 .top).cells.getD 0 .top).toInt
def xnt (a:LA):=xcr 32 ((xao (Lib.itoa (xdI a))).getD (0,0,[])).snd.fst ((xao (Lib.itoa (xdI a))).getD (0,0,[])).snd.snd
def xns (a:LA):=(xnt a).getD (0,[])
def xnr (a:LA):=Iter (xbt a (↑a.length:Int) 0 3 3) (1,(xns a).fst,xdI a,((a.getD 0 .top).cells.getD 1 .top).toInt,((a.getD 0 .top).cells.getD 2 .top).toStr,[AV.int .i64 (xdI a),AV.int .i64 ((a.getD 0 .top).cells.getD 1 .top).toInt,AV.int .i64 (↑((a.getD 0 .top).cells.getD 2 .top).toStr.length:Int)],(xns a).snd)
def xk3 (a:LA):=(xnr a).getD (0,0,0,[],[])
def xnq (a:LA):=xal ((xk3 a).snd.snd.snd).fst (xk3 a).fst ((xk3 a).snd.snd.snd).snd
def xnp (a:LA):=((xnq a).getD (0,0,[])).snd
def xno (a:LA):=Iter (xdF a (↑a.length:Int)) (1,(xnp a).fst,(xnp a).snd)
def xgM (a:LA):=(xno a).getD (0,[])
def xom {T:Type} (a:LA) (δ:T) (κ:List UInt8->T):T:=br (decide (0<(↑a.length:Int))) (br (decide (0<(↑a.length:Int))) (br (decide (0<a.length)&&((a.getD 0 .top).cells.length==3&&xId [Sh.int .i64,Sh.int .i64,Sh.str] (a.getD 0 .top).cells 0)) (br (decide ((-9223372036854775808)<=xdI a)&&decide (xdI a<=9223372036854775807)) (br ((xao (Lib.itoa (xdI a))).isSome) (br ((xnt a).isSome) (br ((xnr a).isSome) (br ((xnq a).isSome) (br ((xno a).isSome) (br (decide ((xgM a).fst=((xgM a).snd).length)&&isBytes ((xgM a).snd)&&decide (((xgM a).snd).length≠0)) (κ (strOf ((xgM a).snd))) δ) δ) δ) δ) δ) δ) δ) δ) δ) (κ ([]))
def xb8 (a:LA):=xom a none some
def xsd:EO:=xyT.f Tryz.func76 37 0 [] [(6,xhU.lp),(3,xn2.lp)] (lks (lkC xn2.ok (lkC xhU.ok lkN))) (u1 (uL 3)) (fun (a,_) _=>xom a) (fun _ p=>AV.str p) []
def xfa (x:Int):Bool:=((x != x))
def xwv {T:Type} (x:Int) (δ:T) (κ:Bool->T):T:=κ (x != x)
def xGj:EO:=xsd.fT Tryz.func89 6 0 [] [] lk0 (fun (x,_)=>xwv x none) (u1 uI) (fun (x,_)=>xfa x) (fun _ p=>(AV.bool p))
def xcb (x y:Int):Int:=(br (xfa x) (br (xfa y) ((0)) (((-1)))) (br (xfa y) ((1)) (br (decide (x<y)) (((-1))) (br (decide (x>y)) ((1)) ((0))))))
def xuG {T:Type} (x y:Int) (δ:T) (κ:Int->T):T:=br (xfa x) (br (xfa y) (κ (0)) (κ ((-1)))) (br (xfa y) (κ (1)) (br (decide (x<y)) (κ ((-1))) (br (decide (x>y)) (κ (1)) (κ (0)))))
def xyU:EO:=xGj.fT Tryz.func57 20 0 [] [] lk0 (fun (x,y,_)=>xuG x y none) (u2 uI uI) (fun (x,y,_)=>xcb x y) (fun _ p=>(AV.int .i64 p))
def xhY:Env:=xyU.E.fn 18 0 (lsOf []) (xIu [])
def xvo:xH8 P0 (xIQ.at 0) xhY:=xyU.ok.fn
def xtg:LoOk P0 (xIQ.at xhY.pin) xhY (Tryz.f56.body.getD .skip):=xgd (ls:=[xIc Tryz.f56 0]) (by kernel_rfl) (fun l a lp b=>by
 simp only [zD,List.not_mem_nil,or_false] at a;rcases a with rfl
 . rw [show xhY.lp (xIm (xIc Tryz.f56 0))=none by kernel_rfl] at b
   simp at b)
def xmY (a b c:Int):Int:=(br (a != 0) ((a)) (br (b != 0) ((b)) (br (c != 0) ((c)) ((0)))))
def xsk (a b c:Int):Bool:=true
def xvp {T:Type} (a b c:Int) (δ:T) (κ:Int->T):T:=br (a != 0) (κ (a)) (br (b != 0) (κ (b)) (br (c != 0) (κ (c)) (κ (0))))
def xBU (a b c:Int):Pre (xsk a b c) (XF P0 xhY Tryz.f56 (Tryz.f56.body.getD .skip) [AV.list 1 [AV.int .i64 a,AV.int .i64 b,AV.int .i64 c]]) (AV.int .i64 (xmY a b c)):=by
 have h:XF P0 xhY Tryz.f56 (Tryz.f56.body.getD .skip) [AV.list 1 [AV.int .i64 a,AV.int .i64 b,AV.int .i64 c]]=xvp a b c none (fun (p:Int)=>some ((AV.int .i64 p):AV)):=by kernel_rfl
 rw [h];unfold xmY xsk xvp;repeat' (first|exact Pre.none|exact Pre.tt rfl|exact Pre.some rfl|refine Pre.l ?_|refine Pre.r ?_|refine Pre.br (f:=fun (p:Int)=>((AV.int .i64 p):AV)) ?_ ?_|refine Pre.brt (f:=fun (p:Int)=>((AV.int .i64 p):AV)) ?_ ?_)
def xBT:LA->Option (Bool×AV):=ocOf (xIS (xI6 1 (xIR (pInt .i64) (xIR (pInt .i64) (xIR (pInt .i64) xIT)))) xIU) fun ((a,(b,(c,_))),_)=>(true,(AV.int .i64 (xmY a b c)))
def xBS:OcOk P0 xIQ 56 (xBT):=xdB fun e h f=>by
 obtain ⟨⟨a,⟨b,⟨c,_⟩⟩⟩,_⟩:=e;obtain ⟨g,d⟩:=Prod.mk.inj f;refine xfp (p:=xhY.pin) (xhu xIh (xIi P0 _) rfl xvo Tryz.func56 rfl (by kernel_rfl) xtg ((Pre.get (xBU _ _ _) rfl).trans ?_))
 exact congrArg some d
def xGk:EO:=xyU.w xBS
def xaF (a b:Int) (c:List UInt8) (d e:Int) (f:List UInt8):Int:=((xmY (xcb a d) (xcb b e) (Lib.compareBytes c f)))
def xs1 {T:Type} (a b:Int) (c:List UInt8) (d e:Int) (f:List UInt8) (δ:T) (κ:Int->T):T:=κ (xmY (xcb a d) (xcb b e) (Lib.compareBytes c f))
def xC4:EO:=xGk.fT Tryz.func115 22 0 [] [] lk0 (fun ((a,b,c,_),(d,e,f,_),_)=>xs1 a b c d e f none) (u2 (xI7 (u3 uI uI (sEq pStr))) (xI7 (u3 uI uI (sEq pStr)))) (fun ((a,b,c,_),(d,e,f,_),_)=>xaF a b c d e f) (fun _ p=>(AV.int .i64 p))
def xbB (c b:LA) (a:Int):=xaF (gC b a 0).toInt (gC b a 1).toInt (gC b a 2).toStr (gC c a 0).toInt (gC c a 1).toInt (gC c a 2).toStr
def xbL {T:Type} (e c b:LA) (d a:Int) (δ:T) (κl:(Int)->T) (κr:(Bool×(Int)×(Unit))->T):T:=br (decide (a<d)) (br (ixI b a) (br (ixT b a 3 [Sh.int .i64,Sh.int .i64,Sh.str] 0) (br (decide (a>=c.length)) (κr (true,(1),())) (br (ixI c a) (br (ixT c a 3 [Sh.int .i64,Sh.int .i64,Sh.str] 0) (br (xbB c b a != 0) (κr (true,(xbB c b a),())) (κl (i64.wrap (a+1)))) δ) δ)) δ) δ) (κr (false,0,()))
def xaz (d e a:LA) (b:Int):StT (Int) (Bool×(Int)×(Unit)):=fun (c)=>xbL d e a b c none inL inR
def xis:=xC4.l 39 0 [] [] Tryz.f114 0 lk0 [0,1,2,11,12,13] [0,1,6] [] (q6 (qL 3) (qL 3) (xIv 115 xIT) (qL 3) qI qI) xIT (fun (d,e,_,a,b,c,_) _=>(xaz d e a b,(c),fun p=>(.node p.1 (.leaf .ret [AV.list 3 d,AV.list 3 e,AV.int .i64 p.2.1] []) (.leaf (.exit 0) [AV.list 3 d,AV.list 3 e,.top] [])))) (false,0,()) fun (d,e,_,a,b,_,_) _ (c)=>(((d,e,(),a,b,c,()),()),xbL d e a b c none)
def xg9 {T:Type} (a b:LA) (δ:T) (κ:Int->T):T:=br ((Iter (xaz a b a (↑a.length:Int)) 0).isSome) (br (((Iter (xaz a b a (↑a.length:Int)) 0).getD (false,0,())).fst) (κ (((Iter (xaz a b a (↑a.length:Int)) 0).getD (false,0,())).snd.fst)) (br (decide ((↑a.length:Int)<(↑b.length:Int))) (κ ((-1))) (κ (0)))) δ
def xir (a b:LA):=xg9 a b none some
def xGl:EO:=xC4.f Tryz.func114 39 0 [] [(2,xis.lp)] (lk1 xis.ok) (u3 (uL 3) (uL 3) (sEq (xIv (115:FuncId) xIT))) (fun (a,b,_,_) _=>xg9 a b) (fun _ p=>AV.int .i64 p) 0
def xk9 {T:Type} (a b:LA) (δ:T) (κ:Int->T):T:=br ((xir a b).isSome) (κ ((xir a b).getD 0)) δ
def xjE (a b:LA):=xk9 a b none some
def xGm:EO:=xGl.f Tryz.func86 8 0 [] [] lk0 (u2 (uL 3) (uL 3)) (fun (a,b,_) _=>xk9 a b) (fun _ p=>AV.int .i64 p) 0
def xjH {T:Type} (a c b d:LA) (δ:T) (κ:Int->T):T:=br ((xjE a b).isSome) (κ ((xjE a b).getD 0)) δ
def xfg (c a d b:LA):=xjH c a d b none some
def xyV:EO:=xGm.f Tryz.func85 10 0 [] [] lk0 (u2 (xI7 (u2 (uL 3) (uL 2))) (xI7 (u2 (uL 3) (uL 2)))) (fun ((c,a,_),(d,b,_),_) _=>xjH c a d b) (fun _ p=>AV.int .i64 p) 0
def xcl (a:Nat) (j:Int):=decide (0<=i64.wrap (j - 1))&&decide (i64.wrap (j - 1)<(↑a:Int))
def xbp (j:Int):Nat:=0+(i64.wrap (j - 1)).toNat
def xcm (a:Nat) (j:Int):=decide (0<=j)&&decide (j<(↑a:Int))
def xeL (j:Int) (a:LA):=decide (0+j.toNat<a.length)
def xeJ (j:Int) (a:LA):=xeL j a&&((a.getD (0+j.toNat) .top).cells.length==2&&xId [Sh.list 3,Sh.list 2] (a.getD (0+j.toNat) .top).cells 0)
def xaG (j:Int) (a:LA):=(a.getD (xbp j) .top).cells
def xeH (j:Int) (a:LA):=decide (xbp j<a.length)&&((xaG j a).length==2&&xId [Sh.list 3,Sh.list 2] (xaG j a) 0)
def xeI (j:Int) (a:LA):=xfg ((a.getD (0+j.toNat) .top).cells.getD 0 .top).toList ((a.getD (0+j.toNat) .top).cells.getD 1 .top).toList ((xaG j a).getD 0 .top).toList ((xaG j a).getD 1 .top).toList
def xeK (j:Int) (a:LA):=a.set (0+j.toNat) (AV.agg [AV.list 3 ((xaG j a).getD 0 .top).toList,AV.list 2 ((xaG j a).getD 1 .top).toList])
def xeW {T:Type} (d:Nat) (a b i j:Int) (c:LA) (δ:T) (κl:(Int×LA)->T) (κr:(LA)->T):T:=br (decide (j>a)) (br (xcm d j) (br (xeJ j c) (br (xcl d j) (br (xeH j c) (br ((xeI j c).isSome) (br (decide ((xeI j c).getD 0<0)) (br (xcl d j) (br (xeH j c) (br (xcm d j) (br (xeJ j c) (br (xcm d j) (br (xeL j c) (br (xcl d j) (br (decide (xbp j<(xeK j c).length)) (κl (i64.wrap (j - 1),(xeK j c).set (xbp j) (AV.agg [AV.list 3 ((c.getD (0+j.toNat) .top).cells.getD 0 .top).toList,AV.list 2 ((c.getD (0+j.toNat) .top).cells.getD 1 .top).toList]))) δ) δ) δ) δ) δ) δ) δ) δ) (κr (c))) δ) δ) δ) δ) δ) (κr (c))
def xbg (d:Nat) (a b i:Int):StT (Int×LA) (LA):=fun (j,c)=>xeW d a b i j c none inL inR
def xbo:=xyV.l 53 1 [95] [] Tryz.f143 1 lk0 [0,1,2,3,8,9] [0,1,2,3,8] [] (q6 (xI2 0 0 0) qI qI (xIv 85 xIT) qI qI) (q1 (qB 0 2 95 xIV)) (fun (c,a,b,_,i,j,_) (d,_)=>(xbg c a b i,(j,d),fun p=>(.leaf (.exit 2) [AV.osl 0 0 0 c,AV.int .i64 a,AV.int .i64 b,AV.func 85 [],AV.int .i64 i] [bF 0 2 95 p]))) [] fun (c,a,b,_,i,_,_) _ (j,d)=>(((c,a,b,(),i,j,()),(d,())),xeW c a b i j d none)
def xeV {T:Type} (d:Nat) (a b i:Int) (c:LA) (δ:T) (κl:(Int×LA)->T) (κr:(LA)->T):T:=br (decide (i<b)) (br ((Iter (xbg d a b i) (i,c)).isSome) (κl (i64.wrap (i+1),(Iter (xbg d a b i) (i,c)).getD [])) δ) (κr (c))
def xbf (d:Nat) (a b:Int):StT (Int×LA) (LA):=fun (i,c)=>xeV d a b i c none inL inR
def xeG:=xyV.l 53 1 [95] [(4,xbo.lp)] Tryz.f143 0 (lk1 xbo.ok) [0,1,2,3,8] [] [] (q5 (xI2 0 0 0) qI qI (xIv 85 xIT) qI) (q1 (qB 0 2 95 xIV)) (fun (d,a,b,_,i,_) (c,_)=>(xbf d a b,(i,c),fun p=>(.leaf (.exit 0) [] [bF 0 2 95 p]))) [] fun (d,a,b,_,_,_) _ (i,c)=>(((d,a,b,(),i,()),(c,())),xeV d a b i c none)
def xdk {T:Type} (n:Nat) (a b:Int) (c:LA) (δ:T) (κ:LA->T):T:=br ((Iter (xbf n a b) (i64.wrap (a+1),c)).isSome) (κ ((Iter (xbf n a b) (i64.wrap (a+1),c)).getD [])) δ
def xaZ (n:Nat) (a b:Int) (c:LA):=xdk n a b c none some
def xu1:EO:=xyV.fM Tryz.func143 53 1 [95] [(4,xbo.lp),(1,xeG.lp)] (lks (lkC xeG.ok (lkC xbo.ok lkN))) (u4 (sEq (xI2 0 0 0)) uI uI (sEq (xIv (85:FuncId) xIT))) (q1 (qB 0 2 95 xIV)) (fun (n,a,b,_,_) (c,_) _=>xdk n a b c) (fun _ _ p=>(AV.tuple [],([bF 0 2 95 p]:List Box))) []
def xem {T:Type} (d:Nat) (n e a b:Int) (c:LA) (δ:T) (κl:(Int×Int×LA)->T) (κr:(Int×LA)->T):T:=br (decide (b<=n)) (br ((xaZ d a b c).isSome) (κl (b,i64.wrap (b+e),(xaZ d a b c).getD [])) δ) (κr (a,c))
def xbn (e:Nat) (n c:Int):StT (Int×Int×LA) (Int×LA):=fun (a,b,d)=>xem e n c a b d none inL inR
def xcn:=xu1.l 63 1 [95] [] Tryz.f113 0 lk0 [0,1,2,6,7,8] [0,1,2,6,7] [] (q6 (xI2 0 0 0) qI (xIv 85 xIT) qI qI qI) (q1 (qB 0 2 95 xIV)) (fun (d,n,_,c,a,b,_) (e,_)=>(xbn d n c,(a,b,e),fun p=>(.leaf (.exit 0) [AV.osl 0 0 0 d,AV.int .i64 n,AV.func 85 [],AV.int .i64 c,AV.int .i64 p.1] [bF 0 2 95 p.2]))) (0,[]) fun (d,n,_,c,_,_,_) _ (a,b,e)=>(((d,n,(),c,a,b,()),(e,())),xem d n c a b e none)
def xgZ {T:Type} (d:Nat) (n e a b:Int) (c:LA) (δ:T) (κl:(Int×Int×LA)->T) (κr:(Int×LA)->T):T:=br (decide (b<=n)) (br (decide (0+d<=c.length)&&true) δ δ) (κr (a,c))
def xf8 (e:Nat) (n c:Int):StT (Int×Int×LA) (Int×LA):=fun (a,b,d)=>xgZ e n c a b d none inL inR
def xco:=xu1.l 63 1 [95] [(2,xcn.lp)] Tryz.f113 2 lk0 [0,1,2,6,7,8] [0,1,2,6,7] [] (q6 (xI2 0 0 0) qI (xIv 85 xIT) qI qI qI) (q1 (qB 0 2 95 xIV)) (fun (d,n,_,c,a,b,_) (e,_)=>(xf8 d n c,(a,b,e),fun p=>(.leaf (.exit 4) [AV.osl 0 0 0 d,AV.int .i64 n,AV.func 85 [],AV.int .i64 c,AV.int .i64 p.1] [bF 0 2 95 p.2]))) (0,[]) fun (d,n,_,c,_,_,_) _ (a,b,e)=>(((d,n,(),c,a,b,()),(e,())),xgZ d n c a b e none)
def xgO (c:Nat) (n a:Int) (b:LA):=Iter (xf8 c n a) (0,i64.wrap (2*a),b)
def xd5 (c:Nat) (n a:Int) (b:LA):=(xgO c n a b).getD (0,[])
def xen {T:Type} (c:Nat) (n a:Int) (b:LA) (δ:T) (κl:(Int×LA)->T) (κr:(LA)->T):T:=br (decide (a<n)) (br ((xgO c n a b).isSome) (br (decide (i64.wrap ((xd5 c n a b).fst+a)<n)) (br (decide (0+c<=((xd5 c n a b).snd).length)&&true) δ δ) (κl (i64.wrap (a*2),((xd5 c n a b).snd)))) δ) (κr (b))
def xbV (c:Nat) (n:Int):StT (Int×LA) (LA):=fun (a,b)=>xen c n a b none inL inR
def xgN:=xu1.l 63 1 [95] [(2,xcn.lp),(9,xco.lp)] Tryz.f113 1 (lk1 xco.ok) [0,1,2,6] [] [] (q4 (xI2 0 0 0) qI (xIv 85 xIT) qI) (q1 (qB 0 2 95 xIV)) (fun (c,n,_,a,_) (b,_)=>(xbV c n,(a,b),fun p=>(.leaf (.exit 2) [] [bF 0 2 95 p]))) [] fun (c,n,_,_,_) _ (a,b)=>(((c,n,(),a,()),(b,())),xen c n a b none)
def xe6 (n:Nat) (k:Int) (a:LA):=(Iter (xbn n k 20) (0,20,a)).getD (0,[])
def xe5 (n:Nat) (k:Int) (a:LA):=xaZ n (xe6 n k a).fst k (xe6 n k a).snd
def xe4 (n:Nat) (k:Int) (a:LA):=Iter (xbV n k) (20,(xe5 n k a).getD [])
def xfz {T:Type} (n:Nat) (k:Int) (a:LA) (δ:T) (κ:LA->T):T:=br ((Iter (xbn n k 20) (0,20,a)).isSome) (br ((xe5 n k a).isSome) (br ((xe4 n k a).isSome) (κ ((xe4 n k a).getD [])) δ) δ) δ
def xea (n:Nat) (k:Int) (a:LA):=xfz n k a none some
def xGn:EO:=xu1.fM Tryz.func113 63 1 [95] [(2,xcn.lp),(9,xco.lp),(7,xgN.lp)] (lks (lkC xcn.ok (lkC xgN.ok (lkC xco.ok lkN)))) (u3 (sEq (xI2 0 0 0)) uI (sEq (xIv (85:FuncId) xIT))) (q1 (qB 0 2 95 xIV)) (fun (n,k,_,_) (a,_) _=>xfz n k a) (fun _ _ p=>(AV.tuple [],([bF 0 2 95 p]:List Box))) []
def xe3 {T:Type} (n:Nat) (a:LA) (δ:T) (κ:LA->T):T:=br ((xea n (↑n:Int) a).isSome) (κ ((xea n (↑n:Int) a).getD [])) δ
def xfJ (n:Nat) (a:LA):=xe3 n a none some
def xC5:EO:=xGn.fM Tryz.func84 9 1 [95] [] lk0 (u2 (sEq (xI2 0 0 0)) (sEq (xIv (85:FuncId) xIT))) (q1 (qB 0 2 95 xIV)) (fun (n,_,_) (a,_) _=>xe3 n a) (fun _ _ p=>(AV.tuple [],([bF 0 2 95 p]:List Box))) []
def xdp (b:LA) (c:Int) (a:LA):=a++[AV.agg [AV.list 3 (gC b c 0).toList,AV.list 2 []]]
def xbk (a:Nat):Nat:=0+(↑a:Int).toNat
def xbN (a:LA) (b:Int):=(xh0 (gC a b 0).toList).getD []
def xfB (d:LA) (f:Int) (b:Nat) (e:Int) (c a:LA):=decide (xbk b<(xdp d e a).length)
def xaM (c:LA) (b:Nat) (d:Int) (a:LA):=((xdp c d a).getD (xbk b) .top).cells
def xex (a:LA) (b:Int):=decide ((xbN a b).length<=4611686018427387904)
def xdq (b:LA) (c:Int) (a:LA):=(xIq (AV.int .i64 0) a (xbN b c)).toInt
def xfC (c:LA) (b:Nat) (d:Int) (a:LA):=decide (0<=xdq c d a)&&decide (xdq c d a<(↑b:Int))
def xat (c:LA) (b:Nat) (d:Int) (a:LA):=((xaM c b d a).getD 1 .top).toList.length
def xam (b:LA) (c:Int) (a:LA):Nat:=0+(xdq b c a).toNat
def xeZ (a:LA) (d:Nat) (b:Int) (c:LA):=((xaM a d b c).getD 1 .top).toList++[AV.agg [AV.int .i64 (gC a b 1).toInt,AV.int .i64 (gC a b 2).toInt]]
def xdN (c:LA) (b:Nat) (d:Int) (a:LA):=(xdp c d a).set (xbk b) (AV.agg (List.take 1 (xaM c b d a)++[AV.int .i64 (↑(xat c b d a):Int)]++List.drop 2 (xaM c b d a)))
def xfD (c:LA) (d:Int) (a b:LA):=decide (xam c d a<b.length)
def xau (c:LA) (d:Int) (a b:LA):=((b.getD (xam c d a) .top).cells.getD 1 .top).toList.length
def xeY (b:LA) (c:Int) (a d:LA):=((d.getD (xam b c a) .top).cells.getD 1 .top).toList++[AV.agg [AV.int .i64 (gC b c 1).toInt,AV.int .i64 (gC b c 2).toInt]]
def xcG (c:LA) (a:Nat) (d:Int) (b:LA):=((xdN c a d b).getD (xbk a) .top).cells
def xdO (c:LA) (d:Int) (a b:LA):=b.set (xam c d a) (AV.agg (List.take 1 (b.getD (xam c d a) .top).cells++[AV.int .i64 (↑(xau c d a b):Int)]++List.drop 2 (b.getD (xam c d a) .top).cells))
def xcH (c:LA) (d:Int) (a b:LA):=((xdO c d a b).getD (xam c d a) .top).cells
def xc2 {T:Type} (e:LA) (f:Int) (d:Nat) (c:Int) (b a:LA) (δ:T) (κl:(Nat×Int×LA×LA)->T) (κr:(Nat×LA)->T):T:=br (decide (c<f)) (br (ixI e c) (br (ixT e c 3 [Sh.list 3,Sh.int .i64,Sh.int .i64] 0) (br (!xaO (gC e c 1).toInt (gC e c 2).toInt) (κl (d,i64.wrap (c+1),b,a)) (br ((xh0 (gC e c 0).toList).isSome) (br (xex e c&&xH6 (Sh.int .i64) (xIq (AV.int .i64 0) b (xbN e c))) (br (!xID b (xbN e c)) (br (decide (b.length<4611686018427387904)&&xex e c) (br (rmB d a 1 48) (br (decide ((↑d:Int)<(↑(d+1):Int))) (br (xfB e f d c b a&&(xIO 2 ((xaM e d c a).getD 1 .top)&&(xaM e d c a).length==2)) (br (xfB e f d c b a&&(xIO 2 ((xaM e d c a).getD 1 .top)&&((xaM e d c a).length==2&&(2*xat e d c a==2*xat e d c a&&(xat e d c a==xat e d c a&&(xat e d c a==xat e d c a&&(decide ((xat e d c a+1)*16<=140737488355328)&&decide (xat e d c a+1<=4611686018427387904)))))))) (br (decide ((↑d:Int)<(↑(d+1):Int))) (br (decide (xbk d<(xdN e d c a).length)&&((xcG e d c a).length==2&&(xat e d c a+1==(xeZ e d c a).length&&xJa ((xcG e d c a).getD 1 .top) (xat e d c a+1)))) (κl (d+1,i64.wrap (c+1),xIo b (xbN e c) (AV.int .i64 (↑d:Int)),(xdN e d c a).set (xbk d) (AV.agg (List.take 1 (xcG e d c a)++[AV.list 2 (xeZ e d c a)]++List.drop 2 (xcG e d c a))))) δ) δ) δ) δ) δ) δ) δ) (br (xfC e d c b) (br (xfD e c b a&&(xIO 2 ((a.getD (xam e c b) .top).cells.getD 1 .top)&&(a.getD (xam e c b) .top).cells.length==2)) (br (xfD e c b a&&(xIO 2 ((a.getD (xam e c b) .top).cells.getD 1 .top)&&((a.getD (xam e c b) .top).cells.length==2&&(2*xau e c b a==2*xau e c b a&&(xau e c b a==xau e c b a&&(xau e c b a==xau e c b a&&(decide ((xau e c b a+1)*16<=140737488355328)&&decide (xau e c b a+1<=4611686018427387904)))))))) (br (xfC e d c b) (br (decide (xam e c b<(xdO e c b a).length)&&((xcH e c b a).length==2&&(xau e c b a+1==(xeY e c b a).length&&xJa ((xcH e c b a).getD 1 .top) (xau e c b a+1)))) (κl (d,i64.wrap (c+1),b,(xdO e c b a).set (xam e c b) (AV.agg (List.take 1 (xcH e c b a)++[AV.list 2 (xeY e c b a)]++List.drop 2 (xcH e c b a))))) δ) δ) δ) δ) δ)) δ) δ)) δ) δ) (κr (d,a))
def xba (d:LA) (e:Int):StT (Nat×Int×LA×LA) (Nat×LA):=fun (c,f,a,b)=>xc2 d e c f a b none inL inR
def xle:=xC5.l 60 0 [] [] Tryz.f52 0 lk0 [3,4,11,12,13] [4] [(4,2,137575268447)] (q5 (xI3 0 0 0 0) (xI2 1 0 0) (qL 3) qI qI) (q2 (qB 0 2 1208925819615191882530816 xIV) (qB 0 2 137575268447 xIV)) (fun (_,c,d,e,f,_) (a,b,_)=>(xba d e,(c,f,a,b),fun p=>(.leaf (.exit 0) [AV.osl 0 0 0 p.1] [bF 0 2 137575268447 p.2]))) (0,[]) fun (_,_,d,e,_,_) _ (c,f,a,b)=>((((),c,d,e,f,()),(a,b,())),xc2 d e c f a b none)
def xjI (l:LA):=Iter (xba l (↑l.length:Int)) (0,0,[],[])
def xdS (l:LA):=(xjI l).getD (0,[])
def xg0 (l:LA):=xfJ ((xdS l).fst) ((xdS l).snd)
def xkj {T:Type} (l:LA) (δ:T) (κ:LA->T):T:=br ((xjI l).isSome) (br (xIE 2 1 ((xdS l).snd)) (br ((xg0 l).isSome) (br (decide (0+((xdS l).fst)<=((xg0 l).getD []).length)&&true) (κ (List.take ((xdS l).fst) (List.drop 0 ((xg0 l).getD [])))) δ) δ) δ) δ
def xhd (l:LA):=xkj l none some
def xC6:EO:=xC5.f Tryz.func52 60 0 [] [(4,xle.lp)] (lk1 xle.ok) (u1 (uL 3)) (fun (l,_) _=>xkj l) (fun _ p=>AV.list 2 p) []
end Go.Sim.M
end
