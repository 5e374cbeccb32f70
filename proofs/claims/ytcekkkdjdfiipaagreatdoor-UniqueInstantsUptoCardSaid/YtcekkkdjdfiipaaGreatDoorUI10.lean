/- Part 10 of the proof of the law. -/
import Derived.Test.YtcekkkdjdfiipaaGreatDoorUI9
import Derived.WalkKit
import Derived.BigCall
import Derived.Lib.Strings
import Derived.Lib.Slices
import Derived.Lib.Walk
import Derived.Lib.Builder
import Derived.Lib.UnsafeStr
import Derived.Laws.Externs
import Derived.Laws.IdiomCopy
import Derived.Laws.BitsLemmas
import Derived.RegionTactic
set_option linter.unusedVariables false
set_option linter.unusedSimpArgs false
set_option linter.unnecessarySimpa false
noncomputable section
namespace Go.Proofs
open Go.RowKit Go.Lib
theorem Tryz.lies_builder (n:Nat) (hn:1<=n):liesAt Tryz.prog Tryz.prog.depth 99 n 0 99 1=true:=by
 have hc:Tryz.prog.cellsOf 99=2:=by kernel_rfl
 have hd:Tryz.prog.depth=(2*(Tryz.prog.types.size+Made.depth)+1)+1:=rfl;generalize Tryz.prog=P at *;rw [hd];simp only [liesAt,Bool.or_eq_true];left;rw [hd];simp [rowAt,hc,hn,sameLayout]
set_option maxHeartbeats 2000000 in
set_option maxRecDepth 100000 in
theorem Tryz.copyCheck_used (b:Nat) (w:World) (h0:w.cell? ⟨b,0,none⟩=some (.pointer (some ⟨b,0,none⟩))) :
  Calls Tryz.prog 88 #[.pointer (some ⟨b,0,none⟩)] w fun e w'=>e=.returned (.tuple #[])/\w'=w:=by
 have hsz:(Tryz.prog.info? 99).map (·.size)=some 2:=by kernel_rfl
 obtain ⟨j,hj,_⟩:=Option.map_eq_some_iff.1 hsz;have tp:Tryz.prog.underlying 96=some (.pointer 99):=by kernel_rfl
 go_enter Tryz.func88,Tryz.ntmps88
 go_wp2
 rw [Lib.run_neq_ptr_same w _ tp hj]
 go_wp2
 go_end0
 exact ⟨rfl,rfl⟩
set_option maxHeartbeats 2000000 in
set_option maxRecDepth 100000 in
theorem Tryz.copyCheck_fresh (b n:Nat) (hn:1<=n) (w:World) (h0:w.cell? ⟨b,0,none⟩=some (.pointer none)) (J:w.shape? b=some (99,n*2)) (Q:w.frozen? ⟨b,0,none⟩=false) :
  Calls Tryz.prog 88 #[.pointer (some ⟨b,0,none⟩)] w fun e w'=>e=.returned (.tuple #[])/\w'=w.setCell ⟨b,0,none⟩ (.pointer (some ⟨b,0,none⟩)):=by
 have hsz:(Tryz.prog.info? 99).map (·.size)=some 2:=by kernel_rfl
 obtain ⟨j,hj,O⟩:=Option.map_eq_some_iff.1 hsz;have hc:Tryz.prog.cellsOf 99=2:=by kernel_rfl
 have tp:Tryz.prog.underlying 96=some (.pointer 99):=by kernel_rfl
 have tu:Tryz.prog.underlying 165=some .unsafePointer:=by kernel_rfl
 have q:liesAt Tryz.prog Tryz.prog.depth 99 (n*2 / Tryz.prog.cellsOf 99) 0 99 1=true:=by
  rw [hc,Nat.mul_div_cancel _ (by decide)];exact Tryz.lies_builder n hn
 have c1:=Lib.run_to_unsafe w ⟨b,0,none⟩ tp tu hj (by rw [O];decide) J (show 0<n*2 by omega)
 have c2:=Lib.run_from_unsafe w ⟨b,0,none⟩ tu tp hj J q;clear q
 go_enter Tryz.func88,Tryz.ntmps88
 go_wp2
 rw [run_callFunc_extern Tryz.func117 (by kernel_rfl) (by kernel_rfl) (by kernel_rfl) (e:=Extern.AbiNoEscape.same) (by kernel_rfl)]
 rw [Lib.run_noEscape];simp only [Result.andThen];rw [Oper.upon_value]
 go_wp2
 go_end0
 exact ⟨rfl,rfl⟩
set_option maxHeartbeats 2000000 in
set_option maxRecDepth 100000 in
theorem Tryz.builder_string (b g cap:Nat) (l:List UInt8) (cur:Array Value) (w:World) (hb:w.cell? ⟨b,1,none⟩=some (.slice (some ⟨g,0,none⟩) l.length cap))
  (hg:w.heap[g]?=some (.cells cur 5 (0,0))) (q:∀ j x,l[j]?=some x->w.cell? ((⟨g,0,none⟩:Addr).add j)=some (.int .u8 x.toNat)) (Q:l.length<=cur.size) (hcap:cap≠0) (h0:l≠[]) (J:l.length<=9223372036854775807) :
  Calls Tryz.prog 61 #[.pointer (some ⟨b,0,none⟩)] w fun e w'=>e=.returned (.string ⟨l.toArray⟩)/\w'=w.drew.freeze ⟨g,0,none⟩ l.length:=by
 have c1:w.drew.cell? ⟨b,1,none⟩=some (.slice (some ⟨g,0,none⟩) l.length cap):=hb;have U:Tryz.prog.underlying 133=some (.pointer 5):=by kernel_rfl
 have O:Tryz.prog.cellsOf 5=1:=by kernel_rfl
 have W:(Builtin.unsafeSliceData_ #[97] 133 #[.slice (some ⟨g,0,none⟩) l.length cap]).run Tryz.prog w.drew=.ok (.pointer (some ⟨g,0,none⟩)) w.drew :=
  Lib.run_unsafeSliceData_row _ _ _ _ _ _ hcap
 have Y:(Builtin.unsafeString_ #[133,3] 9 #[.pointer (some ⟨g,0,none⟩),.int .i64 l.length]).run Tryz.prog w.drew=.ok (.string ⟨l.toArray⟩) (w.drew.freeze ⟨g,0,none⟩ l.length) :=
  Lib.run_unsafeString_row w.drew 133 3 9 5 U O g cur.size (by have hg':w.drew.heap[g]?=some (.cells cur 5 (0,0)):=hg;simp [World.shape?,hg']) l h0 Q J q
 clear q
 go_enter Tryz.func61,Tryz.ntmps61
 go_wp2
 go_region
 all_goals (go_wp2;go_ret;exact ⟨rfl,rfl⟩)
set_option maxHeartbeats 2000000 in
set_option maxRecDepth 100000 in
theorem Tryz.builder_string_nil (b:Nat) (w:World) (hb:w.cell? ⟨b,1,none⟩=some (.slice none 0 0)) :
  Calls Tryz.prog 61 #[.pointer (some ⟨b,0,none⟩)] w fun e w'=>e=.returned (.string ⟨#[]⟩)/\w'=w.drew:=by
 have c1:w.drew.cell? ⟨b,1,none⟩=some (.slice none 0 0):=hb;have J:(Builtin.unsafeSliceData_ #[97] 133 #[.slice none 0 0]).run Tryz.prog w.drew=.ok (.pointer none) w.drew:=rfl;have q:=Lib.run_unsafeString_none (P:=Tryz.prog) w.drew 133 3 9 none
 go_enter Tryz.func61,Tryz.ntmps61
 go_wp2
 go_region
 all_goals (go_wp2;go_ret;exact ⟨rfl,rfl⟩)
end Go.Proofs
end
noncomputable section
namespace Go.Sim
open Go.RowKit Go.Proofs
def M.isByte:AV->Bool
 | .int .u8 n=>decide (0<=n)&&decide (n<256)
 | _=>false
def M.isBytes (xs:List AV):Bool:=xs.all M.isByte
def M.strOf (xs:List AV):List UInt8:=xs.map fun x=>UInt8.ofNat x.toInt.toNat
theorem xzs (s:List UInt8):M.strOf (M.byteAVs s)=s:=by
 unfold M.strOf M.byteAVs;rw [List.map_map]
 conv=>rhs;rw [<-List.map_id s]
 exact List.map_congr_left fun u _=>by simp [AV.toInt]
theorem xvC (s:List UInt8):M.isBytes (M.byteAVs s)=true:=by
 unfold M.isBytes M.byteAVs;rw [zH];intro x hx;obtain ⟨u,_,rfl⟩:=zJ.1 hx;have:=u.toNat_lt;simp only [M.isByte,ze,zk];omega
theorem xrJ (s t:List UInt8):M.byteAVs (s++t)=M.byteAVs s++M.byteAVs t:=by simp [M.byteAVs]
theorem xjO (s:List UInt8):(M.byteAVs s).length=s.length:=by simp [M.byteAVs]
theorem xCX {x:AV} (h:M.isByte x=true):∃ u:UInt8,x=.int .u8 u.toNat:=by
 unfold M.isByte at h;split at h
 . rename_i n;simp only [ze,zk] at h;refine ⟨UInt8.ofNat n.toNat,?_⟩;have:(UInt8.ofNat n.toNat).toNat=n.toNat:=by rw [UInt8.toNat_ofNat',Nat.mod_eq_of_lt (by omega)]
   rw [this];congr 1;omega
 . simp at h
theorem xAa (w:World) (g n k:Nat) (h:k≠g):(w.freeze ⟨g,0,none⟩ n).heap[k]?=w.heap[k]?:=by
 unfold World.freeze;split
 . rfl
 . simp [Array.getElem?_modify,Ne.symm h]
theorem xBn (w:World) (g n:Nat):(w.freeze ⟨g,0,none⟩ n).heap.size=w.heap.size:=by
 unfold World.freeze;split
 . rfl
 . simp
theorem xEm {w w':World} {A:Nat->Prop} {M:Id->Option MB} {B:Nat} {H:List Box} (hR:HR w A M B H) {id:Nat} {m:MB} {bx:Box} (q:0<m.cap) (hm:M (.b id)=some m) (hb:H[id]?=some bx) (aa:isC bx.ty=false) (ab:bx.frz=false) (U:BoxAt w A M B (.b id) m bx) (v:Nat) (hv:m.ver<v) (sz:Nat) (ty:TypeId) (W:isC ty=false)
  (hs:w'.heap.size=w.heap.size) (hw:∀ b,b≠m.b->w'.heap[b]?=w.heap[b]?) :
  HR w' A (MSet M (.b id) ⟨m.b,v,sz,0,ty⟩) B (H.set id ⟨v,sz,ty,[],false,true⟩)/\Mv w A M w' A (MSet M (.b id) ⟨m.b,v,sz,0,ty⟩):=by
 have Z:A m.b:=(U.guard q).1 ab;have O:MExt M (MSet M (.b id) ⟨m.b,v,sz,0,ty⟩):=xpH hm (.inr hv);have hw':∀ b,b<w.heap.size->¬ A b->w'.heap[b]?=w.heap[b]?:=fun b _ hA=>hw b fun e=>hA (e▸Z)
 have hc:∀ {p:Prop},0<(0:Nat)->p:=fun h=>absurd h (by omega)
 have J:∀ i m1,MSet M (.b id) ⟨m.b,v,sz,0,ty⟩ i=some m1->0<m1.cap->i≠.b id/\M i=some m1:=fun i m1 h1 h0=>by
  by_cases hi:i=.b id
  . subst hi;simp [MSet] at h1;subst h1;exact absurd h0 (by simp)
  . exact ⟨hi,by simpa [MSet,hi] using h1⟩
 refine ⟨⟨fun i m1 h1=>?_,fun i i' m1 m2 h1 h2 c1 c2 he=>hR.inj i i' m1 m2 (J i m1 h1 c1).2 (J i' m2 h2 c2).2 c1 c2 he,fun b hb=>by rw [hs];exact hR.lt b hb⟩,⟨by omega,hw',fun _ _ h=>h,fun _ _ h _=>h,O,⟨fun b _ hb=>hw b fun e=>hb (.b id) m hm q e.symm,fun i m1 h1 h0=>.inl ⟨i,m1,(J i m1 h1 h0).2,h0,rfl⟩⟩⟩⟩
 by_cases hi:i=.b id
 . subst hi;have:m1=⟨m.b,v,sz,0,ty⟩:=by simp [MSet] at h1;exact h1.symm
   subst this;exact ⟨⟨v,sz,ty,[],false,true⟩,by rw [xba,zK (xcy hb)],rfl,rfl,xaT W,zP _,zP _,fun x hx=>by simp at hx,hc,hc,hc,hc⟩
 . have Q:M i=some m1:=by simpa [MSet,hi] using h1
   obtain ⟨Y,g1,g2⟩:=hR.box i m1 Q;exact ⟨Y,by rw [xc0 hb aa W hi];exact g1,g2.mono (fun h0=>hw _ fun e=>hi (hR.inj i (.b id) m1 m Q hm h0 q e)) hw' (by omega) (fun _ _ h=>h) g2.guard O⟩
theorem xnO {w:World} {A:Nat->Prop} {M:Id->Option MB} {B:Nat} {H:List Box} (hR:HR w A M B H) {v:Value} {a x:AV} {ty:TypeId} {frz pm:Bool} (J:isC ty=false) (hv:Rel w A M v (.own (.b 0) 0 0 0)) (hb:H[0]?=some ⟨0,2,ty,[.agg [a,x]],frz,pm⟩) :
  ∃ m c,M (.b 0)=some m/\BoxAt w A M B (.b 0) m ⟨0,2,ty,[.agg [a,x]],frz,pm⟩/\1<=m.cap/\v=.pointer (some ⟨m.b,0,none⟩)/\w.heap[m.b]?=some (.cells c ty (0,0))/\c.size=m.cap*2/\m.sz=2 /\
   Rel w A (MP M pm) (c.getD 0 undef) a/\Rel w A (MP M pm) (c.getD 1 undef) x/\w.cell? ⟨m.b,0,none⟩=some (c.getD 0 undef)/\w.cell? ⟨m.b,1,none⟩=some (c.getD 1 undef):=by
 obtain ⟨m,hm,q,hp⟩:=xmc hR hv (xl0 hb J);have hcap:1<=m.cap:=q.fits;have hsz:m.sz=2:=q.sz.symm;obtain ⟨c,h1,h2,h3⟩:=q.plainCells J (by omega)
 rw [hsz] at h2;have r0:=h3 0 0 (by simp) (by omega)
 have r1:=h3 0 1 (by simp) (by omega)
 have h1:w.heap[m.b]?=some (.cells c ty (0,0)):=h1;have e0:w.cell? ⟨m.b,0,none⟩=some (c.getD 0 undef):=by
  have:0<c.size:=by omega
  simp [World.cell?,h1,this]
 have e1:w.cell? ⟨m.b,1,none⟩=some (c.getD 1 undef):=by
  have:1<c.size:=by omega
  simp [World.cell?,h1,this]
 refine ⟨m,c,hm,q,hcap,by simpa using hp,h1,h2,hsz,by simpa [AV.cells] using r0,by simpa [AV.cells] using r1,e0,e1⟩
def xq7:List AV->List Box->Option (Bool×AV×List Box)
 | [.own (.b 0) 0 0 0],⟨0,2,ty,[.agg [.nilptr,x]],false,pm⟩::r=>match Nat.beq ty 99 with
  | true=>some (true,.tuple [],⟨0,2,ty,[.agg [.own (.b 0) 0 0 0,x]],false,false⟩::r)
  | false=>none
 | [.own (.b 0) 0 0 0],⟨0,2,ty,[.agg [.own (.b 0) 0 0 0,x]],false,pm⟩::r=>match Nat.beq ty 99 with
  | true=>some (true,.tuple [],⟨0,2,ty,[.agg [.own (.b 0) 0 0 0,x]],false,pm⟩::r)
  | false=>none
 | _,_=>none
theorem xBk:OmOk Tryz.prog xL2 88 xq7:=fun xs H r H' h=>by
 unfold xq7 at h;split at h
 . rename_i ty x pm rest;split at h
   case h_2=>simp at h
   rename_i J;have J:=zf J;subst J;simp only [z1,za,true_and] at h;obtain ⟨rfl,rfl⟩:=h;refine ⟨xd7 Tryz.func88 rfl (by kernel_rfl),fun w0 w A M vs hI hB hR O=>?_⟩
   obtain ⟨v,rfl,hv⟩:=rc1 O;obtain ⟨m,c,hm,q,hcap,rfl,hh,Q,hsz,r0,r1,e0,e1⟩:=xnO hR (by rfl) hv rfl
   have hn:c.getD 0 undef=.pointer none:=by
    revert r0;generalize c.getD 0 undef=z;intro r0;cases r0;rfl
   rw [hn] at e0;refine (Tryz.copyCheck_fresh m.b m.cap hcap w e0 (by simp [World.shape?,hh,Q]) (Lib.frozen_of_heap hh 0)).mono ?_
   rintro e w' ⟨rfl,rfl⟩;rw [setCell_eq_setRow w m.b 0 c _ _ _ hh];have Z:x.one=true:=by
    have:=q.ok (.agg [.nilptr,x]) (by simp)
    simp only [AV.okElem,AV.cells,List.all_cons,ze] at this;exact this.2.2.1
   have U:(0:Nat)=m.ver:=q.ver;obtain ⟨g1,g2,g3,g4,gt,g5⟩:=xmI (m':=m) (bx':=⟨0,2,99,[.agg [.own (.b 0) 0 0 0,x]],false,false⟩) hR (by omega) hm rfl q rfl rfl rfl (c':=c.setIfInBounds 0 (.pointer (some ⟨m.b,0,none⟩))) rfl rfl rfl rfl (.inl rfl)
    U (by rw [hsz]) (by have:=q.ty;rw [xaT rfl] at this;exact this) rfl hcap (fun y hy=>by
     simp only [zu] at hy;subst hy;rw [hsz];simp [AV.okElem,AV.cells,Z,show (AV.own (.b 0) 0 0 0).one=true from rfl]) (by rw [hsz];simpa using Q) (fun i j hi hj=>by
     have ab:i=0:=by simpa using hi
     subst ab;rw [hsz] at hj |-;have aa:0<c.size:=by omega
     have ac:1<c.size:=by omega
     match j,hj with
     | 0,_ =>
      have:(c.setIfInBounds 0 (.pointer (some ⟨m.b,0,none⟩))).getD (0*2+0) undef=.pointer (some ⟨m.b,0,none⟩):=by simp [aa]
      rw [this];exact .own _ (.b 0) 0 0 0 m hm (by omega) rfl (fun _=>by rw [xkF (q.nomap rfl)];simp)
     | 1,_ =>
      have:(c.setIfInBounds 0 (.pointer (some ⟨m.b,0,none⟩))).getD (0*2+1) undef=c.getD 1 undef:=by simp [Array.getElem?_setIfInBounds]
      rw [this];exact r1.unmp)
   exact ⟨_,A,_,rfl,hB.trans g4,fun _ _=>Iff.rfl,Ev.refl.step ⟨by simp [World.setRow],g3,fun _ _ h=>h,fun _ _ h _=>h,g2,gt⟩,by simpa using g1,.tuple #[] [] rfl (by simp)⟩
 . rename_i ty x pm rest;split at h
   case h_2=>simp at h
   rename_i J;have J:=zf J;subst J;simp only [z1,za,true_and] at h;obtain ⟨rfl,rfl⟩:=h;refine ⟨xd7 Tryz.func88 rfl (by kernel_rfl),fun w0 w A M vs hI hB hR O=>?_⟩
   obtain ⟨v,rfl,hv⟩:=rc1 O;obtain ⟨m,c,hm,q,hcap,rfl,hh,Q,hsz,r0,r1,e0,e1⟩:=xnO hR (by rfl) hv rfl
   obtain ⟨m',W,Y,hp⟩:=xmc hR r0.unmp (xl0 (n:=0) (bx:=⟨0,2,99,[.agg [.own (.b 0) 0 0 0,x]],false,pm⟩) rfl rfl);rw [hm] at W;obtain rfl:=(z1 _ _).mp W;rw [hp] at e0;refine (Tryz.copyCheck_used m.b w (by simpa using e0)).mono ?_
   rintro e w' ⟨rfl,rfl⟩;exact ⟨_,A,M,rfl,hB,fun _ _=>Iff.rfl,Ev.refl,hR,.tuple #[] [] rfl (by simp)⟩
 . simp at h
def xkx:List AV->List Box->Option (Bool×AV×List Box)
 | [.own (.b 0) 0 0 0],[⟨0,2,ty,[.agg [a,.osl (.b 1) u 0 n]],false,pm⟩,⟨u',1,ty',bs,false,pm'⟩]=>match Nat.beq ty 99&&(Nat.beq ty' 5&&Nat.beq u u') with
  | true=>some ((decide (n=bs.length)&&M.isBytes bs)&&decide (bs.length≠0),.str (M.strOf bs),[⟨0,2,ty,[.agg [a,.osl (.b 1) u 0 n]],false,pm⟩,⟨u+1,1,ty',[],false,true⟩])
  | false=>none
 | [.own (.b 0) 0 0 0],⟨0,2,ty,[.agg [a,.nils]],false,pm⟩::r=>match Nat.beq ty 99 with
  | true=>some (true,.str [],⟨0,2,ty,[.agg [a,.nils]],false,pm⟩::r)
  | false=>none
 | _,_=>none
theorem xuN:OmOk Tryz.prog xL2 61 xkx:=fun xs H r H' h=>by
 unfold xkx at h;split at h
 . rename_i ty a u n pm u' al bs ad;split at h
   case h_2=>simp at h
   rename_i O;simp only [ze] at O;obtain ⟨h1,h2,h3⟩:=O;have h1:=zf h1;have h2:=zf h2;have h3:=zf h3;subst h1 h2 h3;simp only [z1,za,ze,zk] at h;obtain ⟨⟨⟨rfl,ai⟩,hne⟩,rfl,rfl⟩:=h;refine ⟨xd7 Tryz.func61 rfl (by kernel_rfl),fun w0 w A MM vs hI hB hR U=>?_⟩
   obtain ⟨v,rfl,hv⟩:=rc1 U;obtain ⟨m,c,hm,Y,hcap,rfl,hh,ae,hsz,r0,r1,e0,e1⟩:=xnO hR (by rfl) hv rfl
   obtain ⟨m1,a1,ac,q,ak,ah,ag⟩:=xiv hR r1.unmp (xl0 (n:=1) (bx:=⟨u,1,5,bs,false,ad⟩) rfl rfl);have J:0<m1.cap:=by have:=q.fits;simp only at this;omega
   have ha:=ag J;subst ha;obtain ⟨c1,k1,k2,k3⟩:=q.plainCells rfl J;have Q:m1.sz=1:=q.sz.symm;have aj:5=m1.ty:=by have:=q.ty;rw [xaT rfl] at this;exact this
   rw [ah] at e1;simp only [Nat.zero_mul,Nat.sub_zero] at e1;have hl:(M.strOf bs).length=bs.length:=by simp [M.strOf]
   have W:∀ j,j<bs.length->∃ uu:UInt8,bs.getD j .top=.int .u8 uu.toNat/\(M.strOf bs)[j]?=some uu/\w.cell? ⟨m1.b,j,none⟩=some (.int .u8 uu.toNat):=fun j hj=>by
    have af:bs.getD j .top∈bs:=xat hj;obtain ⟨uu,hu⟩:=xCX (zH.1 ai _ af);refine ⟨uu,hu,?_,?_⟩
    . have:bs[j]?=some (bs.getD j .top):=xrL hj;simp only [M.strOf,List.getElem?_map,this,hu,Option.map_some,AV.toInt,zM,UInt8.ofNat_toNat]
    . have hr:=k3 j 0 hj (by omega)
      rw [Q,hu] at hr;simp only [Nat.mul_one,Nat.add_zero,AV.cells,List.getD_cons_zero] at hr;have:=hr.int_inv;have Z:j<c1.size:=by have:=q.fits;simp only at this;rw [k2,Q];omega
      simp only [World.cell?,k1];have e2:c1.getD j undef=c1[j]:=by simp [Z]
      rw [e2] at this;simp [Z,this]
   refine (Tryz.builder_string m.b m1.b m1.cap (M.strOf bs) c1 w (by rw [hl];exact e1) k1 (fun j x hx=>by
    have hj:j<bs.length:=by
     rcases zI j bs.length with h'|h'
     . exact h'
     . rw [zy (by omega)] at hx;simp at hx
    obtain ⟨uu,g1,g2,g3⟩:=W j hj;rw [g2] at hx;obtain rfl:=(z1 _ _).mp hx;by_cases ab:j=0
    . subst ab;simpa [Addr.add] using g3
    . simpa [Addr.add,ab] using g3) (by rw [hl,k2,Q];have:=q.fits;simp only at this;omega) (by omega) (fun e=>hne (by rw [<-hl,e];rfl)) (by rw [hl];have h1:=q.fits;have h2:=q.capm;simp only at h1;unfold maxLen at h2;omega)).mono ?_
   rintro e w' ⟨rfl,rfl⟩;rw [hl];have aa:=q.low J;obtain ⟨g1,g2⟩:=xEm hR J ac rfl rfl rfl q (u+1) (by have:=q.ver;simp only at this;omega) 1 5 rfl (w':=w.drew.freeze ⟨m1.b,0,none⟩ bs.length) (by rw [xBn];rfl) (fun b hb=>by rw [xAa _ _ _ _ hb];rfl)
   exact ⟨_,A,_,rfl,Lib.below_freeze (hB.drew) (p:=⟨m1.b,0,none⟩) aa _,fun _ _=>Iff.rfl,Ev.refl.step g2,by simpa using g1,.str _⟩
 . rename_i ty a pm rest am;split at h
   case h_2=>simp at h
   rename_i O;have O:=zf O;subst O;simp only [z1,za,true_and] at h;obtain ⟨rfl,rfl⟩:=h;refine ⟨xd7 Tryz.func61 rfl (by kernel_rfl),fun w0 w A MM vs hI hB hR U=>?_⟩
   obtain ⟨v,rfl,hv⟩:=rc1 U;obtain ⟨m,c,hm,Y,hcap,rfl,hh,ae,hsz,r0,r1,e0,e1⟩:=xnO hR (by rfl) hv rfl
   have hn:c.getD 1 undef=.slice none 0 0:=by
    revert r1;generalize c.getD 1 undef=z;intro r1;cases r1;rfl
   rw [hn] at e1;refine (Tryz.builder_string_nil m.b w e1).mono ?_;rintro e w' ⟨rfl,rfl⟩;exact ⟨_,A,MM,rfl,hB.drew,fun _ _=>Iff.rfl,Ev.refl.step ⟨zb _,fun _ _ _=>rfl,fun _ _ h=>h,fun _ _ h _=>h,MExt.refl MM,⟨fun _ _ _=>rfl,fun i m1 h1 h0=>.inl ⟨i,m1,h1,h0,rfl⟩⟩⟩,hR.drew,.str _⟩
 . simp at h
end Go.Sim
end
noncomputable section
namespace Go.Sim
open Go.RowKit
variable {α β γ : Type}
structure Pat (α β:Type) where
 enc:β->α
 dec:α->Option β
 ok:∀ a b,dec a=some b->a=enc b
def xL7:Pat α α:=⟨fun b=>b,some,fun a b h=>by simpa using h⟩
def pInt (k:IntKind):Pat AV Int:=⟨.int k,fun v=>match v with
 | .int k' n=>match decide (k'=k) with
  | true=>some n
  | false=>none
 | _=>none,fun v n h=>by
 split at h
 . split at h
   . rename_i hk;simp only [z1] at h;rw [of_decide_eq_true hk,h]
   . simp at h
 . simp at h⟩
def pStr:Pat AV (List UInt8):=⟨.str,fun v=>match v with
 | .str s=>some s
 | _=>none,fun v n h=>by
 split at h
 . simp only [z1] at h;rw [h]
 . simp at h⟩
def pBool:Pat AV Bool:=⟨.bool,fun v=>match v with
 | .bool s=>some s
 | _=>none,fun v n h=>by
 split at h
 . simp only [z1] at h;rw [h]
 . simp at h⟩
def xMl (sz:Nat) (q:Pat (List AV) β):Pat AV β:=⟨fun b=>.list sz (q.enc b),fun v=>match v with
 | .list z xs=>match Nat.beq z sz with
  | true=>q.dec xs
  | false=>none
 | _=>none,fun v n h=>by
 split at h
 . split at h
   . rename_i hz;rw [zf hz,q.ok _ _ h]
   . simp at h
 . simp at h⟩
def xMf (id ver off:Nat):Pat AV Nat:=⟨.osl id ver off,fun v=>match v with
 | .osl (.b i) e o n=>match Nat.beq i id&&(Nat.beq e ver&&Nat.beq o off) with
  | true=>some n
  | false=>none
 | _=>none,fun v n h=>by
 split at h
 . split at h
   . rename_i hz;simp only [ze] at hz;simp only [z1] at h;rw [zf hz.1,zf hz.2.1,zf hz.2.2,h]
   . simp at h
 . simp at h⟩
def xMg (id ver i j:Nat):Pat AV Unit:=⟨fun _=>.own id ver i j,fun v=>match v with
 | .own (.b a) b c d=>match Nat.beq a id&&(Nat.beq b ver&&(Nat.beq c i&&Nat.beq d j)) with
  | true=>some ()
  | false=>none
 | _=>none,fun v n h=>by
 split at h
 . split at h
   . rename_i hz;simp only [ze] at hz;rw [zf hz.1,zf hz.2.1,zf hz.2.2.1,zf hz.2.2.2]
   . simp at h
 . simp at h⟩
def xMm (sz i j:Nat) (q:Pat (List AV) β):Pat AV β:=⟨fun b=>.eptr sz (q.enc b) i j,fun v=>match v with
 | .eptr a xs c d=>match Nat.beq a sz&&(Nat.beq c i&&Nat.beq d j) with
  | true=>q.dec xs
  | false=>none
 | _=>none,fun v n h=>by
 split at h
 . split at h
   . rename_i hz;simp only [ze] at hz;rw [zf hz.1,zf hz.2.1,zf hz.2.2,q.ok _ _ h]
   . simp at h
 . simp at h⟩
def xMh (q:Pat (List AV) β):Pat AV β:=⟨fun b=>.agg (q.enc b),fun v=>match v with
 | .agg cs=>q.dec cs
 | _=>none,fun v n h=>by
 split at h
 . rw [q.ok _ _ h]
 . simp at h⟩
def xLJ (f:Nat) (q:Pat (List AV) β):Pat AV β:=⟨fun b=>.func f (q.enc b),fun v=>match v with
 | .func g cs=>match Nat.beq g f with
  | true=>q.dec cs
  | false=>none
 | _=>none,fun v n h=>by
 split at h
 . split at h
   . rename_i hz;rw [zf hz,q.ok _ _ h]
   . simp at h
 . simp at h⟩
def pNils:Pat AV Unit:=⟨fun _=>.nils,fun v=>match v with
 | .nils=>some ()
 | _=>none,fun v n h=>by
 split at h
 . rfl
 . simp at h⟩
def pNilptr:Pat AV Unit:=⟨fun _=>.nilptr,fun v=>match v with
 | .nilptr=>some ()
 | _=>none,fun v n h=>by
 split at h
 . rfl
 . simp at h⟩
def xL5:Pat (List α) Unit:=⟨fun _=>[],fun v=>match v with
 | []=>some ()
 | _=>none,fun v n h=>by
 split at h
 . rfl
 . simp at h⟩
def xL3 (p:Pat α β) (q:Pat (List α) γ):Pat (List α) (β×γ):=⟨fun b=>p.enc b.1::q.enc b.2,fun v=>match v with
 | x::t=>match p.dec x with
  | some b=>match q.dec t with
   | some c=>some (b,c)
   | none=>none
  | none=>none
 | _=>none,fun v n h=>by
 split at h
 . split at h
   . rename_i hp;split at h
     . rename_i hq;cases h;rw [p.ok _ _ hp,q.ok _ _ hq]
     . simp at h
   . simp at h
 . simp at h⟩
def xMi (ver sz ty:Nat) (frz pm:Bool) (q:Pat (List AV) β):Pat Box β:=⟨fun b=>⟨ver,sz,ty,q.enc b,frz,pm⟩,fun v=>match v with
 | ⟨a,b,c,xs,f,p⟩=>match Nat.beq a ver&&(Nat.beq b sz&&(Nat.beq c ty&&((f==frz)&&(p==pm)))) with
  | true=>q.dec xs
  | false=>none,fun v n h=>by
 obtain ⟨a,b,c,xs,f,p⟩:=v;dsimp only at h;split at h
 . rename_i hz;simp only [ze,beq_iff_eq] at hz;rw [zf hz.1,zf hz.2.1,zf hz.2.2.1,hz.2.2.2.1,hz.2.2.2.2,q.ok _ _ h]
 . simp at h⟩
def Sub (a b:AV):Prop:=∀ (w:World) (A:Nat->Prop) (M:Id->Option MB) (v:Value),Rel w A M v a->Rel w A M v b
def SubL (aS bs:List AV):Prop:=aS.length=bs.length/\∀ i,i<aS.length->Sub (aS.getD i .top) (bs.getD i .top)
theorem Sub.refl (a:AV):Sub a a:=fun _ _ _ _ h=>h
theorem Sub.of_eq {a b:AV} (h:a=b):Sub a b:=h▸Sub.refl a
theorem xve (sz:Nat):Sub .nils (.list sz []):=fun w A M v h=>by
 cases h;exact .list0 _ _ _
theorem xHT {aS bs:List AV} (h:SubL aS bs):Sub (.agg aS) (.agg bs):=fun w A M v hr=>by
 obtain ⟨vs,rfl,h1,h2⟩:=hr.agg_inv;exact .agg vs bs (h1.trans h.1) fun i hi=>h.2 i (h.1.symm▸hi) w A M _ (h2 i (h.1.symm▸hi))
theorem xEY {w:World} {A:Nat->Prop} {M:Id->Option MB} {vs:List Value} {aS bs:List AV} (h:SubL aS bs) (hr:RC w A M vs aS):RC w A M vs bs :=
 ⟨hr.1.trans h.1,fun i hi=>h.2 i (h.1.symm▸hi) w A M _ (hr.2 i (h.1.symm▸hi))⟩
structure SPat (β:Type) where
 enc:β->AV
 dec:AV->Option β
 ok:∀ a b,dec a=some b->Sub a (enc b)
structure SPatL (β:Type) where
 enc:β->List AV
 dec:List AV->Option β
 ok:∀ a b,dec a=some b->SubL a (enc b)
def sEq (p:Pat AV β):SPat β:=⟨p.enc,p.dec,fun a b h=>Sub.of_eq (p.ok a b h)⟩
def xMj (sz:Nat) (q:Pat (List AV) β):SPat β:=⟨fun b=>.list sz (q.enc b),fun v=>match v with
 | .nils=>q.dec []
 | .list z xs=>match Nat.beq z sz with
  | true=>q.dec xs
  | false=>none
 | _=>none,fun v n h=>by
 split at h
 . rw [<-q.ok _ _ h];exact xve sz
 . split at h
   . rename_i hz;rw [zf hz,q.ok _ _ h];exact Sub.refl _
   . simp at h
 . simp at h⟩
def xMk (q:SPatL β):SPat β:=⟨fun b=>.agg (q.enc b),fun v=>match v with
 | .agg cs=>q.dec cs
 | _=>none,fun v n h=>by
 split at h
 . exact xHT (q.ok _ _ h)
 . simp at h⟩
def xL6:SPatL Unit:=⟨fun _=>[],fun v=>match v with
 | []=>some ()
 | _=>none,fun v n h=>by
 split at h
 . exact ⟨rfl,fun i hi=>by simp at hi⟩
 . simp at h⟩
def xL4 (p:SPat β) (q:SPatL γ):SPatL (β×γ):=⟨fun b=>p.enc b.1::q.enc b.2,fun v=>match v with
 | x::t=>match p.dec x with
  | some b=>match q.dec t with
   | some c=>some (b,c)
   | none=>none
  | none=>none
 | _=>none,fun v n h=>by
 split at h
 . split at h
   . rename_i hp;split at h
     . rename_i hq;cases h;obtain ⟨h1,h2⟩:=q.ok _ _ hq;refine ⟨by simp [h1],fun i hi=>?_⟩
       cases i with
       | zero=>exact p.ok _ _ hp
       | succ i=>exact h2 i (by simpa using hi)
     . simp at h
   . simp at h
 . simp at h⟩
def ocOf (pv:SPatL β) (g:β->Bool×AV):List AV->Option (Bool×AV):=fun xs=>match pv.dec xs with
 | some b=>some (g b)
 | none=>none
def omOf (pv:SPatL β) (pb:Pat (List Box) γ) (g:β->γ->Bool×AV×List Box):List AV->List Box->Option (Bool×AV×List Box):=fun xs H=>match pv.dec xs with
 | some b=>match pb.dec H with
  | some c=>some (g b c)
  | none=>none
 | none=>none
def lpOf (live liveO:List Nat) (conv:List (Nat×Nat×TypeId)) (pv:Pat (List AV) β) (pb:Pat (List Box) γ) (g:β->γ->Bool×LR):Lp:=⟨live,liveO,conv,fun xs H=>match pv.dec xs with
 | some b=>match pb.dec H with
  | some c=>some (g b c)
  | none=>none
 | none=>none⟩
section
variable {P : Program} {Inv : IV}
theorem xhh {n:FuncId} {pv:SPatL β} {g:β->Bool×AV} (h:∀ b r,g b=(true,r)->Good P Inv n (pv.enc b) r):OcOk P Inv n (ocOf pv g):=fun xs r e=>by
 unfold ocOf at e;split at e
 . rename_i b hb;simp only [z1] at e;obtain ⟨h1,h2⟩:=h b r e;exact ⟨h1,fun w A vs hi ha hr=>h2 w A vs hi ha (xEY (pv.ok _ _ hb) hr)⟩
 . simp at e
theorem xtZ {n:FuncId} {pv:SPatL β} {pb:Pat (List Box) γ} {g:β->γ->Bool×AV×List Box} (h:∀ b c r H',g b c=(true,r,H')->GoodM P Inv n (pv.enc b) (pb.enc c) r H'):OmOk P Inv n (omOf pv pb g):=fun xs H r H' e=>by
 unfold omOf at e;split at e
 . rename_i b hb;split at e
   . rename_i c hc;simp only [z1] at e;rw [pb.ok _ _ hc];obtain ⟨h1,h2⟩:=h b c r H' e;exact ⟨h1,fun w0 w A M vs hi q hR hr=>h2 w0 w A M vs hi q hR (xEY (pv.ok _ _ hb) hr)⟩
   . simp at e
 . simp at e
theorem xAp {nt:Nat} {l:Code} {live liveO:List Nat} {conv:List (Nat×Nat×TypeId)} {pv:Pat (List AV) β} {pb:Pat (List Box) γ} {g:β->γ->Bool×LR}
  (h:∀ b c r,g b c=(true,r)->DoesL P Inv l (fun e1 s1=>e1=r.eval.1/\s1=⟨mkTs nt (liveO.zip r.eval.2.1),r.eval.2.2⟩) ⟨mkTs nt (live.zip (pv.enc b)),pb.enc c⟩):LoopOk P Inv nt l (lpOf live liveO conv pv pb g):=fun vals H r e=>by
 unfold lpOf at e;dsimp only at e;split at e
 . rename_i b hb;split at e
   . rename_i c hc;simp only [z1] at e;rw [pv.ok _ _ hb,pb.ok _ _ hc];exact h b c r e
   . simp at e
 . simp at e
end
theorem xa6 {x:Option α} {d:α} (h:x.isSome=true):x=some (x.getD d):=by
 cases x with
 | none=>simp at h
 | some y=>rfl
open Classical in
noncomputable def limN {α:Type} (R:Nat->Option α):Option α:=if h:∃ n,(R n).isSome=true then R (Classical.choose h) else none
theorem xym {α:Type} {R:Nat->Option α} (h:(limN R).isSome=true):∃ n,limN R=R n:=by
 unfold limN at h |-;split
 . exact ⟨_,rfl⟩
 . rename_i hn;rw [dif_neg hn] at h;simp at h
theorem xui {α:Type} {R:Nat->Option α} {n:Nat} (h:(R n).isSome=true):(limN R).isSome=true:=by
 unfold limN;rw [dif_pos ⟨n,h⟩];exact Classical.choose_spec (⟨n,h⟩:∃ n,(R n).isSome=true)
theorem xAy {P:Program} {Inv:IV} {f:FuncId} {pv:SPatL β} {g:Nat->β->Bool×AV} {G:β->Bool×AV} (hn:∀ n,OcOk P Inv f (ocOf pv (g n))) (hG:∀ b,(G b).1=true->∃ n,G b=g n b):OcOk P Inv f (ocOf pv G):=fun xs r e=>by
 unfold ocOf at e;split at e
 . rename_i b hb;simp only [z1] at e;obtain ⟨n,q⟩:=hG b (by rw [e])
   refine hn n xs r ?_;unfold ocOf;rw [hb,<-e,q]
 . simp at e
end Go.Sim
end
noncomputable section
namespace Go.Sim.M
open Go.RowKit Go.Proofs
def E0:Env:=(((Env.none.with 148 xkv).with 59 xnG).withM 88 xq7).withM 61 xkx
theorem xJk:xLl Tryz.prog xL2 E0:=(((xC9.with xt8).with xwO).withM xBk).withM xuN
end Go.Sim.M
end
noncomputable section
namespace Go.Sim
open Go.RowKit
def EncS {α:Type} (f:α->AV) (a:Option α) (b:Option AV):Prop:=∀ r,a=some r->∃ x,b=some x/\Sub x (f r)
theorem EncS.none {α:Type} {f:α->AV} {b:Option AV}:EncS f .none b:=fun r h=>by simp at h
theorem EncS.some {α:Type} {f:α->AV} {a:α} {b:AV} (h:Sub b (f a)):EncS f (Option.some a) (Option.some b):=fun r e=>by cases e;exact ⟨b,rfl,h⟩
theorem EncS.br {α:Type} {f:α->AV} {t:Bool} {a a':Option α} {b b':Option AV} (h1:EncS f a b) (h2:EncS f a' b'):EncS f (Sim.br t a a') (Sim.br t b b'):=by cases t<;>assumption
theorem xzt (sz:Nat) (x:AV):Sub (.tuple [.nils,x]) (.tuple [.list sz [],x]):=fun w A M v h=>by
 obtain ⟨vs,rfl,hs,hr⟩:=h.tuple_inv;refine .tuple vs _ hs fun i hi=>?_
 match i,hi with
 | 0,_=>exact xve sz w A M _ (hr 0 (by simp))
 | 1,_=>exact hr 1 (by simp)
theorem Good.sub {P:Program} {Inv:IV} {f:FuncId} {args:List AV} {r r':AV} (h:Good P Inv f args r) (hs:Sub r r'):Good P Inv f args r' :=
 ⟨h.1,fun w A vs hI hA q=>(h.2 w A vs hI hA q).mono fun e w' ⟨v,he,hb,hr⟩=>⟨v,he,hb,hs w' A xLz v hr⟩⟩
theorem GoodM.bump1 {P:Program} {Inv:IV} {f:FuncId} {args:List AV} {H:List Box} {v v' k sz:Nat} {ty:TypeId} {xs:List AV} {frz pm:Bool} (U:isC ty=false) (hv:v<v')
  (h:GoodM P Inv f args H (.osl (.b 0) v 0 k) [⟨v,sz,ty,xs,frz,pm⟩]):GoodM P Inv f args H (.osl (.b 0) v' 0 k) [⟨v',sz,ty,xs,frz,pm⟩]:=by
 refine ⟨h.1,fun w0 w A M vs hI hB hR Y=>(h.2 w0 w A M vs hI hB hR Y).mono ?_⟩
 rintro e w' ⟨u,A',M',rfl,h1,h2,h3,h4,h5⟩;obtain ⟨m,g1,g2,g3,g4⟩:=Rel.osl_inv h5;obtain ⟨bx,q1,q2⟩:=h4.box _ m g1;have:bx=⟨v,sz,ty,xs,frz,pm⟩:=by
  have:=q1;rw [xba] at this;simpa using this.symm
 subst this;have Q:v=m.ver:=q2.ver;have O:MExt M' (MSet M' (.b 0) ⟨m.b,v',m.sz,m.cap,m.ty⟩):=xpH g1 (.inr (by simp only;omega))
 have J:∀ id m1,MSet M' (.b 0) ⟨m.b,v',m.sz,m.cap,m.ty⟩ id=some m1->∃ m0,M' id=some m0/\m1.b=m0.b/\m1.cap=m0.cap:=fun id m1 q=>by
  by_cases hi:id=.b 0
  . subst hi;simp [MSet] at q;subst q;exact ⟨m,g1,rfl,rfl⟩
  . exact ⟨m1,by simpa [MSet,hi] using q,rfl,rfl⟩
 have hR':HR w' A' (MSet M' (.b 0) ⟨m.b,v',m.sz,m.cap,m.ty⟩) w0.heap.size [⟨v',sz,ty,xs,frz,pm⟩]:=by
  refine ⟨fun id m1 q=>?_,fun id id' m1 m2 k1 k2 c1 c2 he=>?_,h4.lt⟩
  . by_cases hi:id=.b 0
    . subst hi;have:m1=⟨m.b,v',m.sz,m.cap,m.ty⟩:=by simp [MSet] at q;exact q.symm
      subst this;have q3:=q2.mono (w':=w') (fun _=>rfl) (fun _ _ _=>rfl) (zb _) (fun _ _ h=>h) q2.guard O
      exact ⟨⟨v',sz,ty,xs,frz,pm⟩,rfl,rfl,q3.sz,q3.ty,q3.capm,q3.fits,q3.ok,q3.low,q3.lt,q3.cells,q3.guard⟩
    . have W:M' id=some m1:=by simpa [MSet,hi] using q
      obtain ⟨bx,k1,k2⟩:=h4.box id m1 W;have k3:getB [⟨v',sz,ty,xs,frz,pm⟩] id=some bx:=by
       rw [<-k1];exact xc0 (H:=[⟨v,sz,ty,xs,frz,pm⟩]) (n:=0) (bx:=⟨v,sz,ty,xs,frz,pm⟩) (bx':=⟨v',sz,ty,xs,frz,pm⟩) rfl U U hi
      exact ⟨bx,k3,k2.mono (fun _=>rfl) (fun _ _ _=>rfl) (zb _) (fun _ _ h=>h) k2.guard O⟩
  . obtain ⟨n1,a1,a2,a3⟩:=J id m1 k1;obtain ⟨n2,b1,b2,b3⟩:=J id' m2 k2;exact h4.inj id id' n1 n2 a1 b1 (by omega) (by omega) (by rw [<-a2,<-b2,he])
 refine ⟨u,A',MSet M' (.b 0) ⟨m.b,v',m.sz,m.cap,m.ty⟩,rfl,h1,h2,h3.step ⟨zb _,fun _ _ _=>rfl,fun _ _ h=>h,fun _ _ h _=>h,O,⟨fun _ _ _=>rfl,fun id m1 q h0=>?_⟩⟩,hR',?_⟩
 . obtain ⟨n1,a1,a2,a3⟩:=J id m1 q;exact .inl ⟨id,n1,a1,by omega,a2⟩
 . exact .osl u (.b 0) v' 0 k ⟨m.b,v',m.sz,m.cap,m.ty⟩ (by simp [MSet]) (zb _) g3 fun _=>g4 Q
end Go.Sim
end
noncomputable section
namespace Go.Sim
open Go.RowKit Go.Proofs
noncomputable abbrev P0:Program:=Tryz.prog
section
variable {α β γ ρ σ : Type}
def qI:Pat AV Int:=pInt .i64
def qL (k:Nat):Pat AV (List AV):=xMl k xL7
def qB {β:Type} (v s t:Nat) (q:Pat (List AV) β):Pat Box β:=xMi v s t false true q
def bF (v s t:Nat) (x:List AV):Box:=⟨v,s,t,x,false,true⟩
def uI:SPat Int:=sEq qI
def uL (k:Nat):SPat (List AV):=xMj k xL7
def q1 {α α0:Type} (a:Pat α α0):Pat (List α) (α0×Unit):=xL3 a (xL5)
def q2 {α α0 α1:Type} (a:Pat α α0) (b:Pat α α1):Pat (List α) (α0×α1×Unit):=xL3 a (xL3 b (xL5))
def q3 {α α0 α1 α2:Type} (a:Pat α α0) (b:Pat α α1) (c:Pat α α2):Pat (List α) (α0×α1×α2×Unit):=xL3 a (xL3 b (xL3 c (xL5)))
def q4 {α α0 α1 α2 α3:Type} (a:Pat α α0) (b:Pat α α1) (c:Pat α α2) (d:Pat α α3):Pat (List α) (α0×α1×α2×α3×Unit):=xL3 a (xL3 b (xL3 c (xL3 d (xL5))))
def q5 {α α0 α1 α2 α3 α4:Type} (a:Pat α α0) (b:Pat α α1) (c:Pat α α2) (d:Pat α α3) (e:Pat α α4):Pat (List α) (α0×α1×α2×α3×α4×Unit):=xL3 a (xL3 b (xL3 c (xL3 d (xL3 e (xL5)))))
def q6 {α α0 α1 α2 α3 α4 α5:Type} (a:Pat α α0) (b:Pat α α1) (c:Pat α α2) (d:Pat α α3) (e:Pat α α4) (f:Pat α α5):Pat (List α) (α0×α1×α2×α3×α4×α5×Unit):=xL3 a (xL3 b (xL3 c (xL3 d (xL3 e (xL3 f (xL5))))))
def q7 {α α0 α1 α2 α3 α4 α5 α6:Type} (a:Pat α α0) (b:Pat α α1) (c:Pat α α2) (d:Pat α α3) (e:Pat α α4) (f:Pat α α5) (g:Pat α α6):Pat (List α) (α0×α1×α2×α3×α4×α5×α6×Unit):=xL3 a (xL3 b (xL3 c (xL3 d (xL3 e (xL3 f (xL3 g (xL5)))))))
def q8 {α α0 α1 α2 α3 α4 α5 α6 α7:Type} (a:Pat α α0) (b:Pat α α1) (c:Pat α α2) (d:Pat α α3) (e:Pat α α4) (f:Pat α α5) (g:Pat α α6) (h:Pat α α7):Pat (List α) (α0×α1×α2×α3×α4×α5×α6×α7×Unit):=xL3 a (xL3 b (xL3 c (xL3 d (xL3 e (xL3 f (xL3 g (xL3 h (xL5))))))))
def q9 {α α0 α1 α2 α3 α4 α5 α6 α7 α8:Type} (a:Pat α α0) (b:Pat α α1) (c:Pat α α2) (d:Pat α α3) (e:Pat α α4) (f:Pat α α5) (g:Pat α α6) (h:Pat α α7) (i:Pat α α8):Pat (List α) (α0×α1×α2×α3×α4×α5×α6×α7×α8×Unit):=xL3 a (xL3 b (xL3 c (xL3 d (xL3 e (xL3 f (xL3 g (xL3 h (xL3 i (xL5)))))))))
def q10 {α α0 α1 α2 α3 α4 α5 α6 α7 α8 α9:Type} (a:Pat α α0) (b:Pat α α1) (c:Pat α α2) (d:Pat α α3) (e:Pat α α4) (f:Pat α α5) (g:Pat α α6) (h:Pat α α7) (i:Pat α α8) (j:Pat α α9):Pat (List α) (α0×α1×α2×α3×α4×α5×α6×α7×α8×α9×Unit):=xL3 a (xL3 b (xL3 c (xL3 d (xL3 e (xL3 f (xL3 g (xL3 h (xL3 i (xL3 j (xL5))))))))))
def u1 {α0:Type} (a:SPat α0):SPatL (α0×Unit):=xL4 a (xL6)
def u2 {α0 α1:Type} (a:SPat α0) (b:SPat α1):SPatL (α0×α1×Unit):=xL4 a (xL4 b (xL6))
def u3 {α0 α1 α2:Type} (a:SPat α0) (b:SPat α1) (c:SPat α2):SPatL (α0×α1×α2×Unit):=xL4 a (xL4 b (xL4 c (xL6)))
def u4 {α0 α1 α2 α3:Type} (a:SPat α0) (b:SPat α1) (c:SPat α2) (d:SPat α3):SPatL (α0×α1×α2×α3×Unit):=xL4 a (xL4 b (xL4 c (xL4 d (xL6))))
def u5 {α0 α1 α2 α3 α4:Type} (a:SPat α0) (b:SPat α1) (c:SPat α2) (d:SPat α3) (e:SPat α4):SPatL (α0×α1×α2×α3×α4×Unit):=xL4 a (xL4 b (xL4 c (xL4 d (xL4 e (xL6)))))
def u6 {α0 α1 α2 α3 α4 α5:Type} (a:SPat α0) (b:SPat α1) (c:SPat α2) (d:SPat α3) (e:SPat α4) (f:SPat α5):SPatL (α0×α1×α2×α3×α4×α5×Unit):=xL4 a (xL4 b (xL4 c (xL4 d (xL4 e (xL4 f (xL6))))))
def u7 {α0 α1 α2 α3 α4 α5 α6:Type} (a:SPat α0) (b:SPat α1) (c:SPat α2) (d:SPat α3) (e:SPat α4) (f:SPat α5) (g:SPat α6):SPatL (α0×α1×α2×α3×α4×α5×α6×Unit):=xL4 a (xL4 b (xL4 c (xL4 d (xL4 e (xL4 f (xL4 g (xL6)))))))
def LR.okB:LR->Bool
 | .leaf e _ _=>match e with|.normal=>false|_=>true
 | .node _ a b=>a.okB&&b.okB
theorem LR.okB_ne:∀ {r:LR},r.okB=true->r.eval.1≠.normal
 | .leaf e _ _,h=>fun c=>by
  have c:e=.normal:=c;subst c;simp [LR.okB] at h
 | .node true a b,h=>LR.okB_ne (r:=a) (by simp only [LR.okB,ze] at h;exact h.1)
 | .node false a b,h=>LR.okB_ne (r:=b) (by simp only [LR.okB,ze] at h;exact h.2)
abbrev StT (σ ρ:Type):=σ->Option (σ⊕ρ)
def inL {σ ρ:Type} (s:σ):Option (σ⊕ρ):=some (.inl s)
def inR {σ ρ:Type} (p:ρ):Option (σ⊕ρ):=some (.inr p)
def ixI (l:List AV) (i:Int):Bool:=decide ((0:Int)<=i)&&decide (i<(↑l.length:Int))
def ixS (l:List AV) (i:Int) (s:Sh) (k:Nat):Bool:=decide (i.toNat<l.length)&&xLj s ((l.getD i.toNat .top).cells.getD k .top)
def ixT (l:List AV) (i:Int) (n:Nat) (ss:List Sh) (k:Nat):Bool:=decide (i.toNat<l.length)&&((l.getD i.toNat .top).cells.length==n&&xLq ss (l.getD i.toNat .top).cells k)
def gC (l:List AV) (i:Int) (k:Nat):AV:=(l.getD i.toNat .top).cells.getD k .top
def rmB (n:Nat) (l:List AV) (c z:Nat):Bool:=n==l.length&&(decide ((n+c)*z<=140737488355328)&&decide (n+c<=4611686018427387904))
abbrev RT:=Exit×List AV×List Box
abbrev HL (E:Env) (nt pin:Nat) (ls:List TypeId) (lp:List (Nat×Lp)) (fn:Func):Prop:=LoOk Tryz.prog (xL2.at pin) (E.fn nt pin (lsOf ls) (xLI lp)) (fn.body.getD .skip)
abbrev FX (E:Env) (nt pin:Nat) (ls:List TypeId) (lp:List (Nat×Lp)) (fn:Func) (pv:SPatL β) (t:β->(T:Type)->T->(ρ->T)->T) (e:β->ρ->AV):Prop:=∀ b,XF Tryz.prog (E.fn nt pin (lsOf ls) (xLI lp)) fn (fn.body.getD .skip) (pv.enc b)=t b (Option AV) none fun p=>some (e b p)
abbrev FE (t:β->(T:Type)->T->(ρ->T)->T) (e:β->ρ->AV):Prop:=∀ b,Enc (e b) (t b (Option ρ) none some) (t b (Option AV) none fun p=>some (e b p))
abbrev MX (E:Env) (nt pin:Nat) (ls:List TypeId) (lp:List (Nat×Lp)) (fn:Func) (pv:SPatL β) (pb:Pat (List Box) γ) (t:β->γ->(T:Type)->T->(ρ->T)->T) (e:β->γ->ρ->AV×List Box):Prop:=∀ b c,XFM Tryz.prog (E.fn nt pin (lsOf ls) (xLI lp)) fn (fn.body.getD .skip) (pv.enc b) (pb.enc c)=t b c (Option (AV×List Box)) none fun p=>some (e b c p)
abbrev ME (t:β->γ->(T:Type)->T->(ρ->T)->T) (e:β->γ->ρ->AV×List Box):Prop:=∀ b c,Enc (e b c) (t b c (Option ρ) none some) (t b c (Option (AV×List Box)) none fun p=>some (e b c p))
abbrev TX (E:Env) (nt pin:Nat) (ls:List TypeId) (lp:List (Nat×Lp)) (fn:Func) (pv:SPatL β) (t:β->(ρ->Option AV)->Option AV) (e:β->ρ->AV):Prop:=∀ b,XF Tryz.prog (E.fn nt pin (lsOf ls) (xLI lp)) fn (fn.body.getD .skip) (pv.enc b)=t b fun p=>some (e b p)
noncomputable abbrev LX (E:Env) (nt pin:Nat) (ls:List TypeId) (lp:List (Nat×Lp)) (l:Code) (lv lo:List Nat) (cv:List (Nat×Nat×TypeId)) (pv:Pat (List AV) β) (pb:Pat (List Box) γ) (F:β->γ->(σ->Option (σ⊕ρ))×σ×(ρ->LR)) (G:β->γ->σ->(β×γ)×((σ->Option RT)->(ρ->Option RT)->Option RT)):Prop:=∀ b c s,XR Tryz.prog (E.fn nt pin (lsOf ls) (xLI lp)) lv lo cv l (pv.enc (G b c s).1.1) (pb.enc (G b c s).1.2)=(G b c s).2 (fun s=>some (encR (fun s=>(pv.enc (G b c s).1.1,pb.enc (G b c s).1.2)) (F b c).2.2 (.inl s))) fun p=>some (encR (fun s=>(pv.enc (G b c s).1.1,pb.enc (G b c s).1.2)) (F b c).2.2 (.inr p))
abbrev LE (pv:Pat (List AV) β) (pb:Pat (List Box) γ) (F:β->γ->(σ->Option (σ⊕ρ))×σ×(ρ->LR)) (G:β->γ->σ->(β×γ)×((σ->Option RT)->(ρ->Option RT)->Option RT)):Prop:=∀ b c s,Enc (encR (fun s=>(pv.enc (G b c s).1.1,pb.enc (G b c s).1.2)) (F b c).2.2) ((F b c).1 s) ((G b c s).2 (fun s=>some (encR (fun s=>(pv.enc (G b c s).1.1,pb.enc (G b c s).1.2)) (F b c).2.2 (.inl s))) fun p=>some (encR (fun s=>(pv.enc (G b c s).1.1,pb.enc (G b c s).1.2)) (F b c).2.2 (.inr p)))
theorem eV {f:α->β} {a:Option α} {b:Option β} (Y:Option β) (h:b=Y) (he:Enc f a Y):Enc f a b:=h▸he
abbrev LA:=List AV
theorem lkN {P:Program} {Inv:IV} {E:Env}:∀ c,c∈([]:List Code)->∀ lp,E.lp (xLA c)=some lp->LoopOk P Inv E.nt c lp:=fun c h=>by simp at h
theorem lkC {P:Program} {Inv:IV} {E:Env} {l:Code} {ls:List Code} {lp0:Lp} (hok:LoopOk P Inv E.nt l lp0) (ht:∀ c,c∈ls->∀ lp,E.lp (xLA c)=some lp->LoopOk P Inv E.nt c lp) (h:E.lp (xLA l)=some lp0:=by kernel_rfl):∀ c,c∈l::ls->∀ lp,E.lp (xLA c)=some lp->LoopOk P Inv E.nt c lp:=fun c hc lp hs=>by
 rcases zB.1 hc with rfl|hc
 . rw [h,z1] at hs;subst hs;exact hok
 . exact ht c hc lp hs
theorem eN {f:α->β} {b:Option β}:Enc f none b:=Enc.none
theorem eS {f:α->β} {a:α} {b:β} (h:b=f a):Enc f (some a) (some b):=Enc.some h
theorem eB {f:α->β} {t:Bool} {a a':Option α} {b b':Option β} (h1:Enc f a b) (h2:Enc f a' b'):Enc f (br t a a') (br t b b'):=Enc.br h1 h2
def fnO (pv:SPatL β) (t:β->(T:Type)->T->(ρ->T)->T) (e:β->ρ->AV) (d:ρ):List AV->Option (Bool×AV):=ocOf pv fun b=>((t b (Option ρ) none some).isSome,e b ((t b (Option ρ) none some).getD d))
def fmO (pv:SPatL β) (pb:Pat (List Box) γ) (t:β->γ->(T:Type)->T->(ρ->T)->T) (e:β->γ->ρ->AV×List Box) (d:ρ):List AV->List Box->Option (Bool×AV×List Box):=omOf pv pb fun b c=>((t b c (Option ρ) none some).isSome,e b c ((t b c (Option ρ) none some).getD d))
noncomputable def lpO (lv lo:List Nat) (cv:List (Nat×Nat×TypeId)) (pv:Pat (List AV) β) (pb:Pat (List Box) γ) (F:β->γ->(σ->Option (σ⊕ρ))×σ×(ρ->LR)) (d:ρ):Lp :=
 lpOf lv lo cv pv pb fun b c=>((Iter (F b c).1 (F b c).2.1).isSome,(F b c).2.2 ((Iter (F b c).1 (F b c).2.1).getD d))
section
variable {E : Env}
def Tot {α:Type} (e:ρ->α) (a:ρ) (x:Option α):Prop:=x=some (e a)
theorem eT {α:Type} {e:ρ->α} {t:Bool} {a b:ρ} {x y:Option α} (h1:Tot e a x) (h2:Tot e b y):Tot e (br t a b) (br t x y):=by cases t<;>assumption
theorem eU {α:Type} {e:ρ->α} {a:ρ} {x:α} (h:x=e a):Tot e a (some x):=congrArg some h
def ftO (pv:SPatL β) (f:β->ρ) (e:β->ρ->AV):List AV->Option (Bool×AV):=ocOf pv fun b=>(true,e b (f b))
theorem ftC (h:xLl Tryz.prog xL2 E) {g:FuncId} {fn:Func} (hf:Tryz.prog.funcs[g]?=some fn) (nt pin:Nat) (ls:List TypeId) (lp:List (Nat×Lp)) {pv:SPatL β} {f:β->ρ} {e:β->ρ->AV}
  (hl:HL E nt pin ls lp fn) (t:β->(ρ->Option AV)->Option AV) (hx:TX E nt pin ls lp fn pv t e:=by intro b;kernel_rfl)
  (he:∀ b,Tot (e b) (f b) (t b fun p=>some (e b p)):=by intro b;repeat' first|apply eT|exact eU rfl)
  (hb:fn.body.isSome=true:=by exact rfl) (hn:(fn.name == "runtime.NumGoroutine")=false:=by kernel_rfl):OcOk Tryz.prog xL2 g (ftO pv f e):=xhh fun b r hh=>by
 obtain ⟨_,h2⟩:=Prod.mk.inj hh;subst h2;exact xjq (p:=pin) (xlu xLu (xLv Tryz.prog _) rfl h.fn hf hb hn hl ((hx b).trans (he b)))
theorem lk0 {Inv:IV} {c:Code} (h:xLF c=[]:=by kernel_rfl) (hc:((xLB c).all fun d=>(E.lp (condId d)).isNone)=true:=by kernel_rfl):LoOk Tryz.prog Inv E c:=xhW h hc
theorem lk1 {Inv:IV} {c l:Code} {lp0:Lp} (hok:LoopOk Tryz.prog Inv E.nt l lp0) (h:xLF c=[l]:=by kernel_rfl) (he:E.lp (xLA l)=some lp0:=by kernel_rfl) (hc:((xLB c).all fun d=>(E.lp (condId d)).isNone)=true:=by kernel_rfl):LoOk Tryz.prog Inv E c:=xpF h (lkC hok lkN he) hc
structure EO where
 E:Env
 ok:xLl Tryz.prog xL2 E
def EO.w (e:EO) {g:FuncId} {o:List AV->Option (Bool×AV)} (c:OcOk Tryz.prog xL2 g o):EO:=⟨e.E.with g o,e.ok.with c⟩
def EO.wM (e:EO) {g:FuncId} {o:List AV->List Box->Option (Bool×AV×List Box)} (c:OmOk Tryz.prog xL2 g o):EO:=⟨e.E.withM g o,e.ok.withM c⟩
theorem fnC (h:xLl Tryz.prog xL2 E) {g:FuncId} {fn:Func} (hf:Tryz.prog.funcs[g]?=some fn) (nt pin:Nat) (ls:List TypeId) (lp:List (Nat×Lp)) {pv:SPatL β} {t:β->(T:Type)->T->(ρ->T)->T} {e:β->ρ->AV} {d:ρ}
  (hl:HL E nt pin ls lp fn) (hx:FX E nt pin ls lp fn pv t e:=by intro b;kernel_rfl)
  (he:FE t e:=by intro b;repeat' first|apply eB|exact eN|exact eS rfl)
  (hb:fn.body.isSome=true:=by exact rfl) (hn:(fn.name == "runtime.NumGoroutine")=false:=by kernel_rfl):OcOk Tryz.prog xL2 g (fnO pv t e d):=xhh fun b r hh=>by
 obtain ⟨h1,h2⟩:=Prod.mk.inj hh;subst h2;exact xjq (p:=pin) (xlu xLu (xLv Tryz.prog _) rfl h.fn hf hb hn hl ((hx b).trans (he b _ (xa6 h1))))
theorem fmC (h:xLl Tryz.prog xL2 E) {g:FuncId} {fn:Func} (hf:Tryz.prog.funcs[g]?=some fn) (nt pin:Nat) (ls:List TypeId) (lp:List (Nat×Lp)) {pv:SPatL β} {pb:Pat (List Box) γ} {t:β->γ->(T:Type)->T->(ρ->T)->T} {e:β->γ->ρ->AV×List Box} {d:ρ}
  (hl:HL E nt pin ls lp fn) (hx:MX E nt pin ls lp fn pv pb t e:=by intro b c;kernel_rfl)
  (he:ME t e:=by intro b c;repeat' first|apply eB|exact eN|exact eS rfl)
  (hp:∀ c,(pb.enc c).length=pin:=by exact fun _=>rfl) (hb:fn.body.isSome=true:=by exact rfl) (hn:(fn.name == "runtime.NumGoroutine")=false:=by kernel_rfl):OmOk Tryz.prog xL2 g (fmO pv pb t e d):=xtZ fun b c r H' hh=>by
 obtain ⟨h1,h2⟩:=Prod.mk.inj hh;exact xqH (p:=pin) (xqG xLu (xLv Tryz.prog _) rfl h.fn (hp c) hf hb hn hl (((hx b c).trans (he b c _ (xa6 h1))).trans (congrArg some h2)))
theorem lpC (h:xLl Tryz.prog xL2 E) (nt pin:Nat) (ls:List TypeId) (lp:List (Nat×Lp)) {l:Code} {lv lo:List Nat} {cv:List (Nat×Nat×TypeId)} {pv:Pat (List AV) β} {pb:Pat (List Box) γ} {F:β->γ->(σ->Option (σ⊕ρ))×σ×(ρ->LR)} {d:ρ}
  (hl:LoOk Tryz.prog (xL2.at pin) (E.fn nt pin (lsOf ls) (xLI lp)) l) (G:β->γ->σ->(β×γ)×((σ->Option RT)->(ρ->Option RT)->Option RT))
  (hx:LX E nt pin ls lp l lv lo cv pv pb F G:=by intro b c s;kernel_rfl)
  (he:LE pv pb F G:=by intro b c s;repeat' first|apply eB|exact eN|exact eS rfl)
  (hM:∀ b c,(G b c (F b c).2.1).1=(b,c):=by exact fun _ _=>rfl) (ho:∀ b c r,((F b c).2.2 r).okB=true:=by exact fun _ _ _=>rfl):LoopOk Tryz.prog (xL2.at pin) nt l (lpO lv lo cv pv pb F d):=xAp fun b c r hh=>by
 obtain ⟨h1,h2⟩:=Prod.mk.inj hh;subst h2;have:=xsb xLu (xLv Tryz.prog _) rfl (h.fn (nt:=nt) (pin:=pin) (ls:=lsOf ls) (lp:=xLI lp)) hl (fun s=>(pv.enc (G b c s).1.1,pb.enc (G b c s).1.2)) (F b c).2.2 (fun p=>LR.okB_ne (ho b c p)) (fun s r hr=>(hx b c s).trans (he b c s r hr)) (xa6 (d:=d) h1)
 dsimp only at this;rw [hM b c] at this;exact this
structure LO (pin nt:Nat) (l:Code) where
 lp:Lp
 ok:LoopOk Tryz.prog (xL2.at pin) nt l lp
noncomputable def EO.f (x:EO) {g:FuncId} {fn:Func} (hf:Tryz.prog.funcs[g]?=some fn) (nt pin:Nat) (ls:List TypeId) (lp:List (Nat×Lp))
 (hl:HL x.E nt pin ls lp fn) (pv:SPatL β) (t:β->(T:Type)->T->(ρ->T)->T) (e:β->ρ->AV) (d:ρ) (hx:FX x.E nt pin ls lp fn pv t e:=by intro b;kernel_rfl)
 (he:FE t e:=by intro b;repeat' first|apply eB|exact eN|exact eS rfl)
 (hb:fn.body.isSome=true:=by exact rfl) (hn:(fn.name == "runtime.NumGoroutine")=false:=by kernel_rfl):EO:=x.w (fnC (d:=d) x.ok hf nt pin ls lp hl hx he hb hn)
noncomputable def EO.fM (x:EO) {g:FuncId} {fn:Func} (hf:Tryz.prog.funcs[g]?=some fn) (nt pin:Nat) (ls:List TypeId) (lp:List (Nat×Lp))
 (hl:HL x.E nt pin ls lp fn) (pv:SPatL β) (pb:Pat (List Box) γ) (t:β->γ->(T:Type)->T->(ρ->T)->T) (e:β->γ->ρ->AV×List Box) (d:ρ) (hx:MX x.E nt pin ls lp fn pv pb t e:=by intro b c;kernel_rfl)
 (he:ME t e:=by intro b c;repeat' first|apply eB|exact eN|exact eS rfl)
 (hp:∀ c,(pb.enc c).length=pin:=by exact fun _=>rfl) (hb:fn.body.isSome=true:=by exact rfl) (hn:(fn.name == "runtime.NumGoroutine")=false:=by kernel_rfl):EO:=x.wM (fmC (d:=d) x.ok hf nt pin ls lp hl hx he hp hb hn)
noncomputable def EO.fT (x:EO) {g:FuncId} {fn:Func} (hf:Tryz.prog.funcs[g]?=some fn) (nt pin:Nat) (ls:List TypeId) (lp:List (Nat×Lp))
 (hl:HL x.E nt pin ls lp fn) (t:β->(ρ->Option AV)->Option AV) (pv:SPatL β) (f:β->ρ) (e:β->ρ->AV) (hx:TX x.E nt pin ls lp fn pv t e:=by intro b;kernel_rfl)
 (he:∀ b,Tot (e b) (f b) (t b fun p=>some (e b p)):=by intro b;repeat' first|apply eT|exact eU rfl)
 (hb:fn.body.isSome=true:=by exact rfl) (hn:(fn.name == "runtime.NumGoroutine")=false:=by kernel_rfl):EO:=x.w (ftC x.ok hf nt pin ls lp hl t hx he hb hn)
noncomputable def EO.l (x:EO) (nt pin:Nat) (ls:List TypeId) (lp:List (Nat×Lp)) (fn:Func) (k:Nat) (hl:LoOk Tryz.prog (xL2.at pin) (x.E.fn nt pin (lsOf ls) (xLI lp)) (xLp fn k)) (lv lo:List Nat) (cv:List (Nat×Nat×TypeId)) (pv:Pat (List AV) β) (pb:Pat (List Box) γ) (F:β->γ->(σ->Option (σ⊕ρ))×σ×(ρ->LR)) (d:ρ)
 (G:β->γ->σ->(β×γ)×((σ->Option RT)->(ρ->Option RT)->Option RT))
 (hx:LX x.E nt pin ls lp (xLp fn k) lv lo cv pv pb F G:=by intro b c s;kernel_rfl)
 (he:LE pv pb F G:=by intro b c s;repeat' first|apply eB|exact eN|exact eS rfl)
 (hM:∀ b c,(G b c (F b c).2.1).1=(b,c):=by exact fun _ _=>rfl) (ho:∀ b c r,((F b c).2.2 r).okB=true:=by exact fun _ _ _=>rfl):LO pin nt (xLp fn k):=⟨lpO lv lo cv pv pb F d,lpC x.ok nt pin ls lp hl G hx he hM ho⟩
theorem lks {Inv:IV} {c:Code} {ls:List Code} (hl:∀ l,l∈ls->∀ lp,E.lp (xLA l)=some lp->LoopOk Tryz.prog Inv E.nt l lp) (h:xLF c=ls:=by kernel_rfl) (hc:((xLB c).all fun d=>(E.lp (condId d)).isNone)=true:=by kernel_rfl):LoOk Tryz.prog Inv E c:=xpF h hl hc
end
end
end Go.Sim
end
noncomputable section
namespace Go.Sim
theorem sUF:(∀ {σ ρ:Type} (s:σ),(inL s:Option (σ⊕ρ))=some (.inl s))/\(∀ {σ ρ:Type} (p:ρ),(inR p:Option (σ⊕ρ))=some (.inr p))/\(∀ (l:List AV) (i:Int),ixI l i=(decide ((0:Int)<=i)&&decide (i<(↑l.length:Int))))/\(∀ (l:List AV) (i:Int) (s:Sh) (k:Nat),ixS l i s k=(decide (i.toNat<l.length)&&xLj s ((l.getD i.toNat .top).cells.getD k .top)))/\(∀ (l:List AV) (i:Int) (n:Nat) (ss:List Sh) (k:Nat),ixT l i n ss k=(decide (i.toNat<l.length)&&((l.getD i.toNat .top).cells.length==n&&xLq ss (l.getD i.toNat .top).cells k)))/\(∀ (l:List AV) (i:Int) (k:Nat),gC l i k=(l.getD i.toNat .top).cells.getD k .top)/\(∀ (n:Nat) (l:List AV) (c z:Nat),rmB n l c z=(n==l.length&&(decide ((n+c)*z<=140737488355328)&&decide (n+c<=4611686018427387904)))) :=
 ⟨fun _=>rfl,fun _=>rfl,fun _ _=>rfl,fun _ _ _ _=>rfl,fun _ _ _ _ _=>rfl,fun _ _ _=>rfl,fun _ _ _ _=>rfl⟩
theorem sBU:((∀ {α β:Type} {l:List α} (f:α->β),(l.map f).length=l.length)/\(∀ {T:Type} {a b:T},br true a b=a)/\(∀ {T:Type} {a b:T},br false a b=b)/\(∀ (h:Decidable True),@decide True h=true)/\(∀ (h:Decidable False),@decide False h=false) /\
  (∀ b:Bool,(b&&true)=b)/\(∀ b:Bool,(true&&b)=b)/\((!true)=false)/\((!false)=true)/\(∀ n:Nat,(n:Int).toNat=n)/\(∀ n:Nat,(0:Int)<=(n:Int))/\(∀ {α:Type} {a:α},(some a).isSome=true)/\(∀ {α:Type} {a b:α},(some a).getD b=a) /\
  (∀ {α:Type} [BEq α] [ReflBEq α] (a:α),(a==a)=true)/\(∀ n:Nat,0+n=n)/\(∀ n:Nat,n - 0=n))/\(∀ {σ ρ:Type} (s:σ),(inL s:Option (σ⊕ρ))=some (.inl s))/\(∀ {σ ρ:Type} (p:ρ),(inR p:Option (σ⊕ρ))=some (.inr p))/\(∀ (l:List AV) (i:Int),ixI l i=(decide ((0:Int)<=i)&&decide (i<(↑l.length:Int))))/\(∀ (l:List AV) (i:Int) (s:Sh) (k:Nat),ixS l i s k=(decide (i.toNat<l.length)&&xLj s ((l.getD i.toNat .top).cells.getD k .top)))/\(∀ (l:List AV) (i:Int) (n:Nat) (ss:List Sh) (k:Nat),ixT l i n ss k=(decide (i.toNat<l.length)&&((l.getD i.toNat .top).cells.length==n&&xLq ss (l.getD i.toNat .top).cells k)))/\(∀ (l:List AV) (i:Int) (k:Nat),gC l i k=(l.getD i.toNat .top).cells.getD k .top)/\(∀ (n:Nat) (l:List AV) (c z:Nat),rmB n l c z=(n==l.length&&(decide ((n+c)*z<=140737488355328)&&decide (n+c<=4611686018427387904)))) :=
 ⟨⟨z8,rfl,rfl,fun h=>by simp,fun h=>by simp,zR,Bool.true_and,rfl,rfl,zM,Int.natCast_nonneg,rfl,rfl,fun a=>beq_self_eq_true a,zG,Nat.sub_zero⟩,sUF⟩
theorem sOO:(∀ {α:Type} {l:List α},l.drop 0=l)/\(∀ {α:Type} {l:List α} {i:Nat},l.length<=i->l.take i=l)/\(∀ n:Nat,0+n=n)/\(∀ {α β:Type} {l:List α} (f:α->β),(l.map f).length=l.length)/\(∀ n:Nat,n<=n)/\(∀ (h:Decidable True),@decide True h=true)/\(∀ b:Bool,(b&&true)=b)/\(∀ {T:Type} {a b:T},br true a b=a) /\
  (∀ {α:Type} {a:α},(some a).isSome=true)/\(∀ {α:Type} {a b:α},(some a).getD b=a) :=
 ⟨zq,zh,zG,z8,zb,fun h=>by simp,zR,rfl,rfl,rfl⟩
end Go.Sim
noncomputable def Go.Sim.M.xJj:Go.Sim.EO:=Go.Sim.EO.mk Go.Sim.M.E0 Go.Sim.M.xJk
end
noncomputable section
set_option maxRecDepth 100000
namespace Go.Sim.M
open Go.IntKind (i64 u64 u8)
open Go.RowKit Go.Proofs
def xde {T:Type} (a:List UInt8) (δ:T) (κ:Int×Nat×LA->T):T:=br (decide ((byteAVs a).length*1<=140737488355328)&&decide ((byteAVs a).length<=4611686018427387904)) (κ ((↑a.length:Int),(byteAVs a).length,byteAVs a)) δ
def xar (a:List UInt8):=xde a none some
def xJm:EO:=xJj.fM Tryz.func58 19 1 [] [] lk0 (u2 (sEq (xMg 0 0 0 0)) (sEq pStr)) (q1 (qB 0 2 99 (q1 (xMh (q2 pNilptr pNils))))) (fun (_,a,_) (((_,_,_),_),_) _=>xde a) (fun _ _ p=>(AV.tuple [AV.int .i64 p.1,.top],([⟨0,2,99,[AV.agg [AV.own 0 0 0 0,AV.osl 1 0 0 p.2.1]],false,false⟩,bF 0 1 5 p.2.2]:List Box))) (0,0,[])
def xcZ {T:Type} (a:List UInt8) (n:Nat) (b:LA) (δ:T) (κ:Int×Nat×LA->T):T:=br (n==b.length&&(decide ((n+(byteAVs a).length)*1<=140737488355328)&&decide (n+(byteAVs a).length<=4611686018427387904))) (κ ((↑a.length:Int),n+(byteAVs a).length,b++byteAVs a)) δ
def xai (a:List UInt8) (n:Nat) (b:LA):=xcZ a n b none some
def xJn:EO:=xJm.fM Tryz.func58 19 2 [] [] lk0 (u2 (sEq (xMg 0 0 0 0)) (sEq pStr)) (q2 (xMi 0 2 99 false false (q1 (xMh (q2 (xMg 0 0 0 0) (xMf 1 0 0))))) (qB 0 1 5 xL7)) (fun (_,a,_) (((_,n,_),_),b,_) _=>xcZ a n b) (fun _ _ p=>(AV.tuple [AV.int .i64 p.1,.top],([⟨0,2,99,[AV.agg [AV.own 0 0 0 0,AV.osl 1 1 0 p.2.1]],false,false⟩,bF 1 1 5 p.2.2]:List Box))) (0,0,[])
def xlp {T:Type} (a:List UInt8) (n:Nat) (b:LA) (δ:T) (κ:Int×Nat×LA->T):T:=br (n==b.length&&(decide ((n+(byteAVs a).length)*1<=140737488355328)&&decide (n+(byteAVs a).length<=4611686018427387904))) (κ ((↑a.length:Int),n+(byteAVs a).length,b++byteAVs a)) δ
def xCr:EO:=xJn.fM Tryz.func58 19 2 [] [] lk0 (u2 (sEq (xMg 0 0 0 0)) (sEq pStr)) (q2 (xMi 0 2 99 false false (q1 (xMh (q2 (xMg 0 0 0 0) (xMf 1 1 0))))) (qB 1 1 5 xL7)) (fun (_,a,_) (((_,n,_),_),b,_) _=>xlp a n b) (fun _ _ p=>(AV.tuple [AV.int .i64 p.1,.top],([⟨0,2,99,[AV.agg [AV.own 0 0 0 0,AV.osl 1 2 0 p.2.1]],false,false⟩,bF 2 1 5 p.2.2]:List Box))) (0,0,[])
def xaK:Env:=xCr.E.fn 17 1 (lsOf []) (xLI [])
theorem xkI:xLl P0 (xL2.at 1) xaK:=xCr.ok.fn
theorem xj7:LoOk P0 (xL2.at xaK.pin) xaK (Tryz.f60.body.getD .skip):=xhW (by kernel_rfl)
def xeg (c:Int):Int:=((c))
def xfS (c:Int):Bool:=true
def xg2 {T:Type} (c:Int) (δ:T) (κ:Int->T):T:=κ (c)
theorem xmL (c:Int):Pre (xfS c) (XFM P0 xaK Tryz.f60 (Tryz.f60.body.getD .skip) [AV.own (0:Id) 0 0 0,AV.int .u8 c] [{ ver:=0,sz:=2,ty:=(99:TypeId),xs:=[AV.agg [AV.nilptr,AV.nils]],frz:=false,pm:=true }]) ((.top,([⟨0,2,99,[AV.agg [AV.own 0 0 0 0,AV.osl 1 0 0 1]],false,false⟩,⟨0,1,5,[AV.int .u8 (xeg c)],false,true⟩]:List Box))):=by
 have h:XFM P0 xaK Tryz.f60 (Tryz.f60.body.getD .skip) [AV.own (0:Id) 0 0 0,AV.int .u8 c] [{ ver:=0,sz:=2,ty:=(99:TypeId),xs:=[AV.agg [AV.nilptr,AV.nils]],frz:=false,pm:=true }]=xg2 c none (fun (p:Int)=>some (((.top,([⟨0,2,99,[AV.agg [AV.own 0 0 0 0,AV.osl 1 0 0 1]],false,false⟩,⟨0,1,5,[AV.int .u8 p],false,true⟩]:List Box))):(AV×List Box))):=by kernel_rfl
 rw [h];unfold xeg xfS xg2;repeat' (first|exact Pre.none|exact Pre.tt rfl|exact Pre.some rfl|refine Pre.l ?_|refine Pre.r ?_|refine Pre.br (f:=fun (p:Int)=>(((.top,([⟨0,2,99,[AV.agg [AV.own 0 0 0 0,AV.osl 1 0 0 1]],false,false⟩,⟨0,1,5,[AV.int .u8 p],false,true⟩]:List Box))):(AV×List Box))) ?_ ?_|refine Pre.brt (f:=fun (p:Int)=>(((.top,([⟨0,2,99,[AV.agg [AV.own 0 0 0 0,AV.osl 1 0 0 1]],false,false⟩,⟨0,1,5,[AV.int .u8 p],false,true⟩]:List Box))):(AV×List Box))) ?_ ?_)
def xmK:LA->List Box->Option (Bool×AV×List Box):=omOf (xL4 (sEq (xMg 0 0 0 0)) (xL4 (sEq (pInt .u8)) xL6)) (xL3 (xMi 0 2 (99:TypeId) false true (xL3 (xMh (xL3 pNilptr (xL3 pNils xL5))) xL5)) xL5) fun (_,(c,_)) (((_,(_,_)),_),_)=>(true,((.top,([⟨0,2,99,[AV.agg [AV.own 0 0 0 0,AV.osl 1 0 0 1]],false,false⟩,⟨0,1,5,[AV.int .u8 (xeg c)],false,true⟩]:List Box))))
theorem xmJ:OmOk P0 xL2 60 (xmK):=xtZ fun b d h f e=>by
 obtain ⟨_,⟨c,_⟩⟩:=b;obtain ⟨⟨⟨_,⟨_,_⟩⟩,_⟩,_⟩:=d;obtain ⟨g,a⟩:=Prod.mk.inj e;refine xqH (p:=xaK.pin) (xqG xLu (xLv P0 _) rfl xkI rfl Tryz.func60 rfl (by kernel_rfl) xj7 ((Pre.get (xmL _) rfl).trans ?_))
 exact congrArg some a
def xJo:EO:=xCr.wM xmJ
def xgS {T:Type} (c:Int) (n:Nat) (a:LA) (δ:T) (κ:Nat×LA->T):T:=br (rmB n a 1 1) (κ (n+1,a++[AV.int .u8 c])) δ
def xdW (c:Int) (n:Nat) (a:LA):=xgS c n a none some
def xJp:EO:=xJo.fM Tryz.func60 17 2 [] [] lk0 (u2 (sEq (xMg 0 0 0 0)) (sEq (pInt .u8))) (q2 (xMi 0 2 99 false false (q1 (xMh (q2 (xMg 0 0 0 0) (xMf 1 0 0))))) (qB 0 1 5 xL7)) (fun (_,c,_) (((_,n,_),_),a,_) _=>xgS c n a) (fun _ _ p=>(.top,([⟨0,2,99,[AV.agg [AV.own 0 0 0 0,AV.osl 1 1 0 p.1]],false,false⟩,bF 1 1 5 p.2]:List Box))) (0,[])
def xdr {T:Type} (c:Int) (n:Nat) (a:LA) (δ:T) (κ:Nat×LA->T):T:=br (rmB n a 1 1) (κ (n+1,a++[AV.int .u8 c])) δ
def xcw (c:Int) (n:Nat) (a:LA):=xdr c n a none some
def xJq:EO:=xJp.fM Tryz.func60 17 2 [] [] lk0 (u2 (sEq (xMg 0 0 0 0)) (sEq (pInt .u8))) (q2 (xMi 0 2 99 false false (q1 (xMh (q2 (xMg 0 0 0 0) (xMf 1 1 0))))) (qB 1 1 5 xL7)) (fun (_,c,_) (((_,n,_),_),a,_) _=>xdr c n a) (fun _ _ p=>(.top,([⟨0,2,99,[AV.agg [AV.own 0 0 0 0,AV.osl 1 2 0 p.1]],false,false⟩,bF 2 1 5 p.2]:List Box))) (0,[])
def xdk (a b:Int):Bool:=(br (decide (a>=0)) (br (decide (a<b)) ((decide (b<=1099511627776))) ((false))) ((false)))
def xwE {T:Type} (a b:Int) (δ:T) (κ:Bool->T):T:=br (decide (a>=0)) (br (decide (a<b)) (κ (decide (b<=1099511627776))) (κ (false))) (κ (false))
def xJr:EO:=xJq.fT Tryz.func82 18 0 [] [] lk0 (fun ((a,b,_),_)=>xwE a b none) (u1 (xMk (u2 uI uI))) (fun ((a,b,_),_)=>xdk a b) (fun _ p=>(AV.bool p))
def xmd (a b t:Int):Bool:=(br (xdk a b) (br (decide (t>=a)) ((decide (t<b))) ((false))) ((false)))
def xt1 {T:Type} (a b t:Int) (δ:T) (κ:Bool->T):T:=br (xdk a b) (br (decide (t>=a)) (κ (decide (t<b))) (κ (false))) (κ (false))
def xCs:EO:=xJr.fT Tryz.func69 19 0 [] [] lk0 (fun ((a,b,_),t,_)=>xt1 a b t none) (u2 (xMk (u2 uI uI)) uI) (fun ((a,b,_),t,_)=>xmd a b t) (fun _ p=>(AV.bool p))
def xd6 (b:Int) (a:LA):=((a.getD (0+b.toNat) .top).cells.getD 0 .top).toInt
def xjm (d:Int) (c:Nat) (b a:LA):=((xai (Lib.itoa (xd6 d b)) c a).getD (0,0,[])).snd
def xjl (d:Int) (c:Nat) (b a:LA):=xcw 32 (xjm d c b a).fst (xjm d c b a).snd
def xjk (d:Int) (c:Nat) (b a:LA):=(xjl d c b a).getD (0,[])
def xg4 {T:Type} (k:LA) (l j:Int) (e:Nat) (i c:Int) (d:Nat) (f g:Int) (h:List UInt8) (a b:LA) (δ:T) (κl:(Int×Nat×Int×Int×List UInt8×LA×LA)->T) (κr:(Nat×Int×Int×List UInt8×LA)->T):T:=br (decide (c<i)) (br (decide (0<=c)&&decide (c<(↑e:Int))) (br (decide (0+c.toNat<a.length)&&xLj (Sh.int .i64) ((a.getD (0+c.toNat) .top).cells.getD 0 .top)) (br (decide ((-9223372036854775808)<=xd6 c a)&&decide (xd6 c a<=9223372036854775807)) (br ((xai (Lib.itoa (xd6 c a)) d b).isSome) (br ((xjl c d a b).isSome) (κl (i64.wrap (c+1),(xjk c d a b).fst,f,g,h,a,(xjk c d a b).snd)) δ) δ) δ) δ) δ) (κr (d,f,g,h,b))
def xaQ (k:LA) (l e:Int) (c:Nat) (f:Int):StT (Int×Nat×Int×Int×List UInt8×LA×LA) (Nat×Int×Int×List UInt8×LA):=fun (g,d,h,i,j,b,a)=>xg4 k l e c f g d h i j b a none inL inR
def xgg:=xCs.l 37 0 [] [] Tryz.f112 1 lk0 [3,5,8,9,10,21,22,23] [3,5,8,9,10] [] (q8 (xMg 0 0 0 0) (xMg 1 0 0 0) (qL 3) qI qI (xMf 2 0 0) qI qI) (q4 (xMi 0 2 99 false false (q1 (xMh (q2 (xMg 0 0 0 0) (xMf 3 0 0))))) (qB 0 3 64 (q1 (xMh (q3 qI qI pStr)))) (qB 0 1 3 xL7) (qB 0 1 5 xL7)) (fun (_,_,k,m,e,c,f,g,_) (((_,d,_),_),((h,i,j,_),_),b,a,_)=>(xaQ k m e c f,(g,d,h,i,j,b,a),fun p=>(.leaf (.exit 2) [AV.own 0 0 0 0,AV.own 1 0 0 0,AV.list 3 k,AV.int .i64 m,AV.int .i64 e] [⟨0,2,99,[AV.agg [AV.own 0 0 0 0,AV.osl 2 0 0 p.1]],false,false⟩,bF 0 3 64 [AV.agg [AV.int .i64 p.2.1,AV.int .i64 p.2.2.1,AV.str p.2.2.2.1]],bF 0 1 5 p.2.2.2.2]))) (0,0,0,[],[]) fun (_,_,k,m,e,c,f,_,_) _ (g,d,h,i,j,b,a)=>((((),(),k,m,e,c,f,g,()),((((),d,()),()),((h,i,j,()),()),b,a,())),xg4 k m e c f g d h i j b a none)
def xjj (b:LA) (e a:Int) (d:Nat) (c:LA):=Iter (xaQ b e a 3 3) (0,d,(gC b a 0).toInt,(gC b a 1).toInt,(gC b a 2).toStr,[AV.int .i64 (gC b a 0).toInt,AV.int .i64 (gC b a 1).toInt,AV.int .i64 (↑(gC b a 2).toStr.length:Int)],c)
def xji (d:LA) (e c:Int) (b:Nat) (a:LA):=(xjj d e c b a).getD (0,0,0,[],[])
def xjh (d:LA) (e c:Int) (b:Nat) (a:LA):=(xji d e c b a).snd.snd.snd
def xjg (d:LA) (e c:Int) (b:Nat) (a:LA):=xai (xjh d e c b a).fst (xji d e c b a).fst (xjh d e c b a).snd
def xjf (d:LA) (e c:Int) (b:Nat) (a:LA):=((xjg d e c b a).getD (0,0,[])).snd
def xg3 {T:Type} (d:LA) (e b:Int) (c:Nat) (a:LA) (δ:T) (κl:(Int×Nat×LA)->T) (κr:(Nat×LA)->T):T:=br (decide (b<e)) (br (ixI d b) (br (ixT d b 3 [Sh.int .i64,Sh.int .i64,Sh.str] 0) (br ((xjj d e b c a).isSome) (br ((xjg d e b c a).isSome) (κl (i64.wrap (b+1),(xjf d e b c a).fst,(xjf d e b c a).snd)) δ) δ) δ) δ) (κr (c,a))
def xci (d:LA) (e:Int):StT (Int×Nat×LA) (Nat×LA):=fun (c,b,a)=>xg3 d e c b a none inL inR
def xn2:=xCs.l 37 0 [] [(6,xgg.lp)] Tryz.f112 0 (lk1 xgg.ok) [3,8,9,10] [3] [] (q4 (xMg 0 0 0 0) (qL 3) qI qI) (q2 (xMi 0 2 99 false false (q1 (xMh (q2 (xMg 0 0 0 0) (xMf 1 0 0))))) (qB 0 1 5 xL7)) (fun (_,d,e,c,_) (((_,b,_),_),a,_)=>(xci d e,(c,b,a),fun p=>(.leaf (.exit 0) [AV.own 0 0 0 0] [⟨0,2,99,[AV.agg [AV.own 0 0 0 0,AV.osl 1 0 0 p.1]],false,false⟩,bF 0 1 5 p.2]))) (0,[]) fun (_,d,e,_,_) _ (c,b,a)=>((((),d,e,c,()),((((),b,()),()),a,())),xg3 d e c b a none)
def xb3 (a:LA):=((a.getD 0 .top).cells.getD 0 .top).toInt
def xlU (a:LA):=xdW 32 ((xar (Lib.itoa (xb3 a))).getD (0,0,[])).snd.fst ((xar (Lib.itoa (xb3 a))).getD (0,0,[])).snd.snd
def xlT (a:LA):=(xlU a).getD (0,[])
def xlS (a:LA):=Iter (xaQ a (↑a.length:Int) 0 3 3) (1,(xlT a).fst,xb3 a,((a.getD 0 .top).cells.getD 1 .top).toInt,((a.getD 0 .top).cells.getD 2 .top).toStr,[AV.int .i64 (xb3 a),AV.int .i64 ((a.getD 0 .top).cells.getD 1 .top).toInt,AV.int .i64 (↑((a.getD 0 .top).cells.getD 2 .top).toStr.length:Int)],(xlT a).snd)
def xlR (a:LA):=(xlS a).getD (0,0,0,[],[])
def xlQ (a:LA):=(xlR a).snd.snd.snd
def xlP (a:LA):=xai (xlQ a).fst (xlR a).fst (xlQ a).snd
def xlO (a:LA):=((xlP a).getD (0,0,[])).snd
def xlN (a:LA):=Iter (xci a (↑a.length:Int)) (1,(xlO a).fst,(xlO a).snd)
def xlM (a:LA):=(xlN a).getD (0,[])
def xgh (a:LA):=(xlM a).snd
def xm7 {T:Type} (a:LA) (δ:T) (κ:List UInt8->T):T:=br (decide (0<(↑a.length:Int))) (br (decide (0<(↑a.length:Int))) (br (decide (0<a.length)&&((a.getD 0 .top).cells.length==3&&xLq [Sh.int .i64,Sh.int .i64,Sh.str] (a.getD 0 .top).cells 0)) (br (decide ((-9223372036854775808)<=xb3 a)&&decide (xb3 a<=9223372036854775807)) (br ((xar (Lib.itoa (xb3 a))).isSome) (br ((xlU a).isSome) (br ((xlS a).isSome) (br ((xlP a).isSome) (br ((xlN a).isSome) (br (decide ((xlM a).fst=(xgh a).length)&&isBytes (xgh a)&&decide ((xgh a).length≠0)) (κ (strOf (xgh a))) δ) δ) δ) δ) δ) δ) δ) δ) δ) (κ ([]))
def xhf (a:LA):=xm7 a none some
def xCt:EO:=xCs.f Tryz.func112 37 0 [] [(6,xgg.lp),(3,xn2.lp)] (lks (lkC xn2.ok (lkC xgg.ok lkN))) (u1 (uL 3)) (fun (a,_) _=>xm7 a) (fun _ p=>AV.str p) []
def xfR (b:Int) (a:LA):=((a.getD (0+b.toNat) .top).cells.getD 0 .top).toInt
def xm1 (d:Int) (c:Nat) (b a:LA):=((xai (Lib.itoa (xfR d b)) c a).getD (0,0,[])).snd
def xm0 (d:Int) (c:Nat) (b a:LA):=xcw 32 (xm1 d c b a).fst (xm1 d c b a).snd
def xmx (d:Int) (c:Nat) (b a:LA):=(xm0 d c b a).getD (0,[])
def xoy {T:Type} (k:LA) (l j:Int) (e:Nat) (i c:Int) (d:Nat) (f g:Int) (h:List UInt8) (a b:LA) (δ:T) (κl:(Int×Nat×Int×Int×List UInt8×LA×LA)->T) (κr:(Nat×Int×Int×List UInt8×LA)->T):T:=br (decide (c<i)) (br (decide (0<=c)&&decide (c<(↑e:Int))) (br (decide (0+c.toNat<a.length)&&xLj (Sh.int .i64) ((a.getD (0+c.toNat) .top).cells.getD 0 .top)) (br (decide ((-9223372036854775808)<=xfR c a)&&decide (xfR c a<=9223372036854775807)) (br ((xai (Lib.itoa (xfR c a)) d b).isSome) (br ((xm0 c d a b).isSome) (κl (i64.wrap (c+1),(xmx c d a b).fst,f,g,h,a,(xmx c d a b).snd)) δ) δ) δ) δ) δ) (κr (d,f,g,h,b))
def xhM (k:LA) (l e:Int) (c:Nat) (f:Int):StT (Int×Nat×Int×Int×List UInt8×LA×LA) (Nat×Int×Int×List UInt8×LA):=fun (g,d,h,i,j,b,a)=>xoy k l e c f g d h i j b a none inL inR
def xfQ:=xCt.l 37 0 [] [] Tryz.f33 1 lk0 [3,5,8,9,10,21,22,23] [3,5,8,9,10] [] (q8 (xMg 0 0 0 0) (xMg 1 0 0 0) (qL 3) qI qI (xMf 2 0 0) qI qI) (q4 (xMi 0 2 99 false false (q1 (xMh (q2 (xMg 0 0 0 0) (xMf 3 0 0))))) (qB 0 3 64 (q1 (xMh (q3 qI qI pStr)))) (qB 0 1 3 xL7) (qB 0 1 5 xL7)) (fun (_,_,k,m,e,c,f,g,_) (((_,d,_),_),((h,i,j,_),_),b,a,_)=>(xhM k m e c f,(g,d,h,i,j,b,a),fun p=>(.leaf (.exit 2) [AV.own 0 0 0 0,AV.own 1 0 0 0,AV.list 3 k,AV.int .i64 m,AV.int .i64 e] [⟨0,2,99,[AV.agg [AV.own 0 0 0 0,AV.osl 2 0 0 p.1]],false,false⟩,bF 0 3 64 [AV.agg [AV.int .i64 p.2.1,AV.int .i64 p.2.2.1,AV.str p.2.2.2.1]],bF 0 1 5 p.2.2.2.2]))) (0,0,0,[],[]) fun (_,_,k,m,e,c,f,_,_) _ (g,d,h,i,j,b,a)=>((((),(),k,m,e,c,f,g,()),((((),d,()),()),((h,i,j,()),()),b,a,())),xoy k m e c f g d h i j b a none)
def xmZ (b:LA) (e a:Int) (d:Nat) (c:LA):=Iter (xhM b e a 3 3) (0,d,(gC b a 0).toInt,(gC b a 1).toInt,(gC b a 2).toStr,[AV.int .i64 (gC b a 0).toInt,AV.int .i64 (gC b a 1).toInt,AV.int .i64 (↑(gC b a 2).toStr.length:Int)],c)
def xmY (d:LA) (e c:Int) (b:Nat) (a:LA):=(xmZ d e c b a).getD (0,0,0,[],[])
def xmX (d:LA) (e c:Int) (b:Nat) (a:LA):=(xmY d e c b a).snd.snd.snd
def xmW (d:LA) (e c:Int) (b:Nat) (a:LA):=xai (xmX d e c b a).fst (xmY d e c b a).fst (xmX d e c b a).snd
def xmV (d:LA) (e c:Int) (b:Nat) (a:LA):=((xmW d e c b a).getD (0,0,[])).snd
def xow {T:Type} (d:LA) (e b:Int) (c:Nat) (a:LA) (δ:T) (κl:(Int×Nat×LA)->T) (κr:(Nat×LA)->T):T:=br (decide (b<e)) (br (ixI d b) (br (ixT d b 3 [Sh.int .i64,Sh.int .i64,Sh.str] 0) (br ((xmZ d e b c a).isSome) (br ((xmW d e b c a).isSome) (κl (i64.wrap (b+1),(xmV d e b c a).fst,(xmV d e b c a).snd)) δ) δ) δ) δ) (κr (c,a))
def xlH (d:LA) (e:Int):StT (Int×Nat×LA) (Nat×LA):=fun (c,b,a)=>xow d e c b a none inL inR
def xmU:=xCt.l 37 0 [] [(6,xfQ.lp)] Tryz.f33 0 (lk1 xfQ.ok) [3,8,9,10] [3] [] (q4 (xMg 0 0 0 0) (qL 3) qI qI) (q2 (xMi 0 2 99 false false (q1 (xMh (q2 (xMg 0 0 0 0) (xMf 1 0 0))))) (qB 0 1 5 xL7)) (fun (_,d,e,c,_) (((_,b,_),_),a,_)=>(xlH d e,(c,b,a),fun p=>(.leaf (.exit 0) [AV.own 0 0 0 0] [⟨0,2,99,[AV.agg [AV.own 0 0 0 0,AV.osl 1 0 0 p.1]],false,false⟩,bF 0 1 5 p.2]))) (0,[]) fun (_,d,e,_,_) _ (c,b,a)=>((((),d,e,c,()),((((),b,()),()),a,())),xow d e c b a none)
def xcF (a:LA):=((a.getD 0 .top).cells.getD 0 .top).toInt
def xqy (a:LA):=xdW 32 ((xar (Lib.itoa (xcF a))).getD (0,0,[])).snd.fst ((xar (Lib.itoa (xcF a))).getD (0,0,[])).snd.snd
def xqw (a:LA):=(xqy a).getD (0,[])
def xqv (a:LA):=Iter (xhM a (↑a.length:Int) 0 3 3) (1,(xqw a).fst,xcF a,((a.getD 0 .top).cells.getD 1 .top).toInt,((a.getD 0 .top).cells.getD 2 .top).toStr,[AV.int .i64 (xcF a),AV.int .i64 ((a.getD 0 .top).cells.getD 1 .top).toInt,AV.int .i64 (↑((a.getD 0 .top).cells.getD 2 .top).toStr.length:Int)],(xqw a).snd)
def xqu (a:LA):=(xqv a).getD (0,0,0,[],[])
def xqt (a:LA):=(xqu a).snd.snd.snd
def xqs (a:LA):=xai (xqt a).fst (xqu a).fst (xqt a).snd
def xqr (a:LA):=((xqs a).getD (0,0,[])).snd
def xqq (a:LA):=Iter (xlH a (↑a.length:Int)) (1,(xqr a).fst,(xqr a).snd)
def xqp (a:LA):=(xqq a).getD (0,[])
def xir (a:LA):=(xqp a).snd
def xq6 {T:Type} (a:LA) (δ:T) (κ:List UInt8->T):T:=br (decide (0<(↑a.length:Int))) (br (decide (0<(↑a.length:Int))) (br (decide (0<a.length)&&((a.getD 0 .top).cells.length==3&&xLq [Sh.int .i64,Sh.int .i64,Sh.str] (a.getD 0 .top).cells 0)) (br (decide ((-9223372036854775808)<=xcF a)&&decide (xcF a<=9223372036854775807)) (br ((xar (Lib.itoa (xcF a))).isSome) (br ((xqy a).isSome) (br ((xqv a).isSome) (br ((xqs a).isSome) (br ((xqq a).isSome) (br (decide ((xqp a).fst=(xir a).length)&&isBytes (xir a)&&decide ((xir a).length≠0)) (κ (strOf (xir a))) δ) δ) δ) δ) δ) δ) δ) δ) δ) (κ ([]))
def xgf (a:LA):=xq6 a none some
def xJs:EO:=xCt.f Tryz.func33 37 0 [] [(6,xfQ.lp),(3,xmU.lp)] (lks (lkC xmU.ok (lkC xfQ.ok lkN))) (u1 (uL 3)) (fun (a,_) _=>xq6 a) (fun _ p=>AV.str p) []
def xhN (x:Int):Bool:=((x != x))
def xBi {T:Type} (x:Int) (δ:T) (κ:Bool->T):T:=κ (x != x)
def xJt:EO:=xJs.fT Tryz.func173 6 0 [] [] lk0 (fun (x,_)=>xBi x none) (u1 uI) (fun (x,_)=>xhN x) (fun _ p=>(AV.bool p))
def xgU (x y:Int):Int:=(br (xhN x) (br (xhN y) ((0)) (((-1)))) (br (xhN y) ((1)) (br (decide (x<y)) (((-1))) (br (decide (x>y)) ((1)) ((0))))))
def xy3 {T:Type} (x y:Int) (δ:T) (κ:Int->T):T:=br (xhN x) (br (xhN y) (κ (0)) (κ ((-1)))) (br (xhN y) (κ (1)) (br (decide (x<y)) (κ ((-1))) (br (decide (x>y)) (κ (1)) (κ (0)))))
def xCu:EO:=xJt.fT Tryz.func147 20 0 [] [] lk0 (fun (x,y,_)=>xy3 x y none) (u2 uI uI) (fun (x,y,_)=>xgU x y) (fun _ p=>(AV.int .i64 p))
def xjc:Env:=xCu.E.fn 18 0 (lsOf []) (xLI [])
theorem xzV:xLl P0 (xL2.at 0) xjc:=xCu.ok.fn
theorem xvn:LoOk P0 (xL2.at xjc.pin) xjc (Tryz.f146.body.getD .skip):=xpF (ls:=[xLp Tryz.f146 0]) (by kernel_rfl) (fun l a lp b=>by
 simp only [zB,List.not_mem_nil,or_false] at a;rcases a with rfl
 . rw [show xjc.lp (xLA (xLp Tryz.f146 0))=none by kernel_rfl] at b
   simp at b)
def xpy (a b c:Int):Int:=(br (a != 0) ((a)) (br (b != 0) ((b)) (br (c != 0) ((c)) ((0)))))
def xvo (a b c:Int):Bool:=true
def xzW {T:Type} (a b c:Int) (δ:T) (κ:Int->T):T:=br (a != 0) (κ (a)) (br (b != 0) (κ (b)) (br (c != 0) (κ (c)) (κ (0))))
theorem xFJ (a b c:Int):Pre (xvo a b c) (XF P0 xjc Tryz.f146 (Tryz.f146.body.getD .skip) [AV.list 1 [AV.int .i64 a,AV.int .i64 b,AV.int .i64 c]]) (AV.int .i64 (xpy a b c)):=by
 have h:XF P0 xjc Tryz.f146 (Tryz.f146.body.getD .skip) [AV.list 1 [AV.int .i64 a,AV.int .i64 b,AV.int .i64 c]]=xzW a b c none (fun (p:Int)=>some ((AV.int .i64 p):AV)):=by kernel_rfl
 rw [h];unfold xpy xvo xzW;repeat' (first|exact Pre.none|exact Pre.tt rfl|exact Pre.some rfl|refine Pre.l ?_|refine Pre.r ?_|refine Pre.br (f:=fun (p:Int)=>((AV.int .i64 p):AV)) ?_ ?_|refine Pre.brt (f:=fun (p:Int)=>((AV.int .i64 p):AV)) ?_ ?_)
def xFI:LA->Option (Bool×AV):=ocOf (xL4 (xMj 1 (xL3 (pInt .i64) (xL3 (pInt .i64) (xL3 (pInt .i64) xL5)))) xL6) fun ((a,(b,(c,_))),_)=>(true,(AV.int .i64 (xpy a b c)))
theorem xFH:OcOk P0 xL2 146 (xFI):=xhh fun e h f=>by
 obtain ⟨⟨a,⟨b,⟨c,_⟩⟩⟩,_⟩:=e;obtain ⟨g,d⟩:=Prod.mk.inj f;refine xjq (p:=xjc.pin) (xlu xLu (xLv P0 _) rfl xzV Tryz.func146 rfl (by kernel_rfl) xvn ((Pre.get (xFJ _ _ _) rfl).trans ?_))
 exact congrArg some d
def xJu:EO:=xCu.w xFH
def xaX (a b:Int) (c:List UInt8) (d e:Int) (f:List UInt8):Int:=((xpy (xgU a d) (xgU b e) (Lib.compareBytes c f)))
def xwd {T:Type} (a b:Int) (c:List UInt8) (d e:Int) (f:List UInt8) (δ:T) (κ:Int->T):T:=κ (xpy (xgU a d) (xgU b e) (Lib.compareBytes c f))
def xGI:EO:=xJu.fT Tryz.func124 22 0 [] [] lk0 (fun ((a,b,c,_),(d,e,f,_),_)=>xwd a b c d e f none) (u2 (xMk (u3 uI uI (sEq pStr))) (xMk (u3 uI uI (sEq pStr)))) (fun ((a,b,c,_),(d,e,f,_),_)=>xaX a b c d e f) (fun _ p=>(AV.int .i64 p))
def xbB (c b:LA) (a:Int):=xaX (gC b a 0).toInt (gC b a 1).toInt (gC b a 2).toStr (gC c a 0).toInt (gC c a 1).toInt (gC c a 2).toStr
def xbJ {T:Type} (e c b:LA) (d a:Int) (δ:T) (κl:(Int)->T) (κr:(Bool×(Int)×(Unit))->T):T:=br (decide (a<d)) (br (ixI b a) (br (ixT b a 3 [Sh.int .i64,Sh.int .i64,Sh.str] 0) (br (decide (a>=c.length)) (κr (true,(1),())) (br (ixI c a) (br (ixT c a 3 [Sh.int .i64,Sh.int .i64,Sh.str] 0) (br (xbB c b a != 0) (κr (true,(xbB c b a),())) (κl (i64.wrap (a+1)))) δ) δ)) δ) δ) (κr (false,0,()))
def xas (d e a:LA) (b:Int):StT (Int) (Bool×(Int)×(Unit)):=fun (c)=>xbJ d e a b c none inL inR
def xjE:=xGI.l 39 0 [] [] Tryz.f123 0 lk0 [0,1,2,11,12,13] [0,1,6] [] (q6 (qL 3) (qL 3) (xLJ 124 xL5) (qL 3) qI qI) xL5 (fun (d,e,_,a,b,c,_) _=>(xas d e a b,(c),fun p=>(.node p.1 (.leaf .ret [AV.list 3 d,AV.list 3 e,AV.int .i64 p.2.1] []) (.leaf (.exit 0) [AV.list 3 d,AV.list 3 e,.top] [])))) (false,0,()) fun (d,e,_,a,b,_,_) _ (c)=>(((d,e,(),a,b,c,()),()),xbJ d e a b c none)
def xig {T:Type} (a b:LA) (δ:T) (κ:Int->T):T:=br ((Iter (xas a b a (↑a.length:Int)) 0).isSome) (br (((Iter (xas a b a (↑a.length:Int)) 0).getD (false,0,())).fst) (κ (((Iter (xas a b a (↑a.length:Int)) 0).getD (false,0,())).snd.fst)) (br (decide ((↑a.length:Int)<(↑b.length:Int))) (κ ((-1))) (κ (0)))) δ
def xjD (a b:LA):=xig a b none some
def xJv:EO:=xGI.f Tryz.func123 39 0 [] [(2,xjE.lp)] (lk1 xjE.ok) (u3 (uL 3) (uL 3) (sEq (xLJ (124:FuncId) xL5))) (fun (a,b,_,_) _=>xig a b) (fun _ p=>AV.int .i64 p) 0
def xmG {T:Type} (a b:LA) (δ:T) (κ:Int->T):T:=br ((xjD a b).isSome) (κ ((xjD a b).getD 0)) δ
def xcg (a b:LA):=xmG a b none some
def xJw:EO:=xJv.f Tryz.func99 8 0 [] [] lk0 (u2 (uL 3) (uL 3)) (fun (a,b,_) _=>xmG a b) (fun _ p=>AV.int .i64 p) 0
def xk1 {T:Type} (a c b d:LA) (δ:T) (κ:Int->T):T:=br ((xcg a b).isSome) (κ ((xcg a b).getD 0)) δ
def xfc (c a d b:LA):=xk1 c a d b none some
def xzu:EO:=xJw.f Tryz.func114 10 0 [] [] lk0 (u2 (xMk (u2 (uL 3) (uL 2))) (xMk (u2 (uL 3) (uL 2)))) (fun ((c,a,_),(d,b,_),_) _=>xk1 c a d b) (fun _ p=>AV.int .i64 p) 0
def xcq (a:Nat) (j:Int):=decide (0<=i64.wrap (j - 1))&&decide (i64.wrap (j - 1)<(↑a:Int))
def xbq (j:Int):Nat:=0+(i64.wrap (j - 1)).toNat
def xcr (a:Nat) (j:Int):=decide (0<=j)&&decide (j<(↑a:Int))
def xey (j:Int) (a:LA):=decide (0+j.toNat<a.length)
def xev (j:Int) (a:LA):=xey j a&&((a.getD (0+j.toNat) .top).cells.length==2&&xLq [Sh.list 3,Sh.list 2] (a.getD (0+j.toNat) .top).cells 0)
def xay (j:Int) (a:LA):=(a.getD (xbq j) .top).cells
def xet (j:Int) (a:LA):=decide (xbq j<a.length)&&((xay j a).length==2&&xLq [Sh.list 3,Sh.list 2] (xay j a) 0)
def xeu (j:Int) (a:LA):=xfc ((a.getD (0+j.toNat) .top).cells.getD 0 .top).toList ((a.getD (0+j.toNat) .top).cells.getD 1 .top).toList ((xay j a).getD 0 .top).toList ((xay j a).getD 1 .top).toList
def xew (j:Int) (a:LA):=a.set (0+j.toNat) (AV.agg [AV.list 3 ((xay j a).getD 0 .top).toList,AV.list 2 ((xay j a).getD 1 .top).toList])
def xeK {T:Type} (d:Nat) (a b i j:Int) (c:LA) (δ:T) (κl:(Int×LA)->T) (κr:(LA)->T):T:=br (decide (j>a)) (br (xcr d j) (br (xev j c) (br (xcq d j) (br (xet j c) (br ((xeu j c).isSome) (br (decide ((xeu j c).getD 0<0)) (br (xcq d j) (br (xet j c) (br (xcr d j) (br (xev j c) (br (xcr d j) (br (xey j c) (br (xcq d j) (br (decide (xbq j<(xew j c).length)) (κl (i64.wrap (j - 1),(xew j c).set (xbq j) (AV.agg [AV.list 3 ((c.getD (0+j.toNat) .top).cells.getD 0 .top).toList,AV.list 2 ((c.getD (0+j.toNat) .top).cells.getD 1 .top).toList]))) δ) δ) δ) δ) δ) δ) δ) δ) (κr (c))) δ) δ) δ) δ) δ) (κr (c))
def xa2 (d:Nat) (a b i:Int):StT (Int×LA) (LA):=fun (j,c)=>xeK d a b i j c none inL inR
def xbp:=xzu.l 53 1 [128] [] Tryz.f157 1 lk0 [0,1,2,3,8,9] [0,1,2,3,8] [] (q6 (xMf 0 0 0) qI qI (xLJ 114 xL5) qI qI) (q1 (qB 0 2 128 xL7)) (fun (c,a,b,_,i,j,_) (d,_)=>(xa2 c a b i,(j,d),fun p=>(.leaf (.exit 2) [AV.osl 0 0 0 c,AV.int .i64 a,AV.int .i64 b,AV.func 114 [],AV.int .i64 i] [bF 0 2 128 p]))) [] fun (c,a,b,_,i,_,_) _ (j,d)=>(((c,a,b,(),i,j,()),(d,())),xeK c a b i j d none)
def xeJ {T:Type} (d:Nat) (a b i:Int) (c:LA) (δ:T) (κl:(Int×LA)->T) (κr:(LA)->T):T:=br (decide (i<b)) (br ((Iter (xa2 d a b i) (i,c)).isSome) (κl (i64.wrap (i+1),(Iter (xa2 d a b i) (i,c)).getD [])) δ) (κr (c))
def xa1 (d:Nat) (a b:Int):StT (Int×LA) (LA):=fun (i,c)=>xeJ d a b i c none inL inR
def xes:=xzu.l 53 1 [128] [(4,xbp.lp)] Tryz.f157 0 (lk1 xbp.ok) [0,1,2,3,8] [] [] (q5 (xMf 0 0 0) qI qI (xLJ 114 xL5) qI) (q1 (qB 0 2 128 xL7)) (fun (d,a,b,_,i,_) (c,_)=>(xa1 d a b,(i,c),fun p=>(.leaf (.exit 0) [] [bF 0 2 128 p]))) [] fun (d,a,b,_,_,_) _ (i,c)=>(((d,a,b,(),i,()),(c,())),xeJ d a b i c none)
def xdd {T:Type} (n:Nat) (a b:Int) (c:LA) (δ:T) (κ:LA->T):T:=br ((Iter (xa1 n a b) (i64.wrap (a+1),c)).isSome) (κ ((Iter (xa1 n a b) (i64.wrap (a+1),c)).getD [])) δ
def xaO (n:Nat) (a b:Int) (c:LA):=xdd n a b c none some
def xzv:EO:=xzu.fM Tryz.func157 53 1 [128] [(4,xbp.lp),(1,xes.lp)] (lks (lkC xes.ok (lkC xbp.ok lkN))) (u4 (sEq (xMf 0 0 0)) uI uI (sEq (xLJ (114:FuncId) xL5))) (q1 (qB 0 2 128 xL7)) (fun (n,a,b,_,_) (c,_) _=>xdd n a b c) (fun _ _ p=>(AV.tuple [],([bF 0 2 128 p]:List Box))) []
def xee {T:Type} (d:Nat) (n e a b:Int) (c:LA) (δ:T) (κl:(Int×Int×LA)->T) (κr:(Int×LA)->T):T:=br (decide (b<=n)) (br ((xaO d a b c).isSome) (κl (b,i64.wrap (b+e),(xaO d a b c).getD [])) δ) (κr (a,c))
def xbe (e:Nat) (n c:Int):StT (Int×Int×LA) (Int×LA):=fun (a,b,d)=>xee e n c a b d none inL inR
def xcu:=xzv.l 63 1 [128] [] Tryz.f139 0 lk0 [0,1,2,6,7,8] [0,1,2,6,7] [] (q6 (xMf 0 0 0) qI (xLJ 114 xL5) qI qI qI) (q1 (qB 0 2 128 xL7)) (fun (d,n,_,c,a,b,_) (e,_)=>(xbe d n c,(a,b,e),fun p=>(.leaf (.exit 0) [AV.osl 0 0 0 d,AV.int .i64 n,AV.func 114 [],AV.int .i64 c,AV.int .i64 p.1] [bF 0 2 128 p.2]))) (0,[]) fun (d,n,_,c,_,_,_) _ (a,b,e)=>(((d,n,(),c,a,b,()),(e,())),xee d n c a b e none)
def xhQ {T:Type} (d:Nat) (n e a b:Int) (c:LA) (δ:T) (κl:(Int×Int×LA)->T) (κr:(Int×LA)->T):T:=br (decide (b<=n)) (br (decide (0+d<=c.length)&&true) δ δ) (κr (a,c))
def xgI (e:Nat) (n c:Int):StT (Int×Int×LA) (Int×LA):=fun (a,b,d)=>xhQ e n c a b d none inL inR
def xcv:=xzv.l 63 1 [128] [(2,xcu.lp)] Tryz.f139 2 lk0 [0,1,2,6,7,8] [0,1,2,6,7] [] (q6 (xMf 0 0 0) qI (xLJ 114 xL5) qI qI qI) (q1 (qB 0 2 128 xL7)) (fun (d,n,_,c,a,b,_) (e,_)=>(xgI d n c,(a,b,e),fun p=>(.leaf (.exit 4) [AV.osl 0 0 0 d,AV.int .i64 n,AV.func 114 [],AV.int .i64 c,AV.int .i64 p.1] [bF 0 2 128 p.2]))) (0,[]) fun (d,n,_,c,_,_,_) _ (a,b,e)=>(((d,n,(),c,a,b,()),(e,())),xhQ d n c a b e none)
def xhv (c:Nat) (n a:Int) (b:LA):=Iter (xgI c n a) (0,i64.wrap (2*a),b)
def xhu (c:Nat) (n a:Int) (b:LA):=(xhv c n a b).getD (0,[])
def xht (c:Nat) (n a:Int) (b:LA):=(xhu c n a b).snd
def xef {T:Type} (c:Nat) (n a:Int) (b:LA) (δ:T) (κl:(Int×LA)->T) (κr:(LA)->T):T:=br (decide (a<n)) (br ((xhv c n a b).isSome) (br (decide (i64.wrap ((xhu c n a b).fst+a)<n)) (br (decide (0+c<=(xht c n a b).length)&&true) δ δ) (κl (i64.wrap (a*2),xht c n a b))) δ) (κr (b))
def xbZ (c:Nat) (n:Int):StT (Int×LA) (LA):=fun (a,b)=>xef c n a b none inL inR
def xhs:=xzv.l 63 1 [128] [(2,xcu.lp),(9,xcv.lp)] Tryz.f139 1 (lk1 xcv.ok) [0,1,2,6] [] [] (q4 (xMf 0 0 0) qI (xLJ 114 xL5) qI) (q1 (qB 0 2 128 xL7)) (fun (c,n,_,a,_) (b,_)=>(xbZ c n,(a,b),fun p=>(.leaf (.exit 2) [] [bF 0 2 128 p]))) [] fun (c,n,_,_,_) _ (a,b)=>(((c,n,(),a,()),(b,())),xef c n a b none)
def xe3 (n:Nat) (k:Int) (a:LA):=(Iter (xbe n k 20) (0,20,a)).getD (0,[])
def xe2 (n:Nat) (k:Int) (a:LA):=xaO n (xe3 n k a).fst k (xe3 n k a).snd
def xe1 (n:Nat) (k:Int) (a:LA):=Iter (xbZ n k) (20,(xe2 n k a).getD [])
def xfH {T:Type} (n:Nat) (k:Int) (a:LA) (δ:T) (κ:LA->T):T:=br ((Iter (xbe n k 20) (0,20,a)).isSome) (br ((xe2 n k a).isSome) (br ((xe1 n k a).isSome) (κ ((xe1 n k a).getD [])) δ) δ) δ
def xd3 (n:Nat) (k:Int) (a:LA):=xfH n k a none some
def xJy:EO:=xzv.fM Tryz.func139 63 1 [128] [(2,xcu.lp),(9,xcv.lp),(7,xhs.lp)] (lks (lkC xcu.ok (lkC xhs.ok (lkC xcv.ok lkN)))) (u3 (sEq (xMf 0 0 0)) uI (sEq (xLJ (114:FuncId) xL5))) (q1 (qB 0 2 128 xL7)) (fun (n,k,_,_) (a,_) _=>xfH n k a) (fun _ _ p=>(AV.tuple [],([bF 0 2 128 p]:List Box))) []
def xeY {T:Type} (n:Nat) (a:LA) (δ:T) (κ:LA->T):T:=br ((xd3 n (↑n:Int) a).isSome) (κ ((xd3 n (↑n:Int) a).getD [])) δ
def xf7 (n:Nat) (a:LA):=xeY n a none some
def xGJ:EO:=xJy.fM Tryz.func113 9 1 [128] [] lk0 (u2 (sEq (xMf 0 0 0)) (sEq (xLJ (114:FuncId) xL5))) (q1 (qB 0 2 128 xL7)) (fun (n,_,_) (a,_) _=>xeY n a) (fun _ _ p=>(AV.tuple [],([bF 0 2 128 p]:List Box))) []
def xdg (b:LA) (c:Int) (a:LA):=a++[AV.agg [AV.list 3 (gC b c 0).toList,AV.list 2 []]]
def xa7 (a:Nat):Nat:=0+(↑a:Int).toNat
def xbL (a:LA) (b:Int):=(xhf (gC a b 0).toList).getD []
def xfJ (d:LA) (f:Int) (b:Nat) (e:Int) (c a:LA):=decide (xa7 b<(xdg d e a).length)
def xfK (d:LA) (e:Int) (a:Nat) (f:Int) (b c:LA):=decide ((↑a:Int)<(↑(a+1):Int))
def xaG (c:LA) (b:Nat) (d:Int) (a:LA):=((xdg c d a).getD (xa7 b) .top).cells
def xeO (a:LA) (b:Int):=decide ((xbL a b).length<=4611686018427387904)
def xdh (b:LA) (c:Int) (a:LA):=(xLE (AV.int .i64 0) a (xbL b c)).toInt
def xfL (c:LA) (b:Nat) (d:Int) (a:LA):=decide (0<=xdh c d a)&&decide (xdh c d a<(↑b:Int))
def xap (c:LA) (b:Nat) (d:Int) (a:LA):=((xaG c b d a).getD 1 .top).toList.length
def xaj (b:LA) (c:Int) (a:LA):Nat:=0+(xdh b c a).toNat
def xeN (a:LA) (d:Nat) (b:Int) (c:LA):=((xaG a d b c).getD 1 .top).toList++[AV.agg [AV.int .i64 (gC a b 1).toInt,AV.int .i64 (gC a b 2).toInt]]
def xdG (c:LA) (b:Nat) (d:Int) (a:LA):=(xdg c d a).set (xa7 b) (AV.agg (List.take 1 (xaG c b d a)++[AV.int .i64 (↑(xap c b d a):Int)]++List.drop 2 (xaG c b d a)))
def xfM (c:LA) (d:Int) (a b:LA):=decide (xaj c d a<b.length)
def xaq (c:LA) (d:Int) (a b:LA):=((b.getD (xaj c d a) .top).cells.getD 1 .top).toList.length
def xeM (b:LA) (c:Int) (a d:LA):=((d.getD (xaj b c a) .top).cells.getD 1 .top).toList++[AV.agg [AV.int .i64 (gC b c 1).toInt,AV.int .i64 (gC b c 2).toInt]]
def xcJ (c:LA) (a:Nat) (d:Int) (b:LA):=((xdG c a d b).getD (xa7 a) .top).cells
def xdH (c:LA) (d:Int) (a b:LA):=b.set (xaj c d a) (AV.agg (List.take 1 (b.getD (xaj c d a) .top).cells++[AV.int .i64 (↑(xaq c d a b):Int)]++List.drop 2 (b.getD (xaj c d a) .top).cells))
def xcK (c:LA) (d:Int) (a b:LA):=((xdH c d a b).getD (xaj c d a) .top).cells
def xcx {T:Type} (d:LA) (f:Int) (e:Nat) (c:Int) (b a:LA) (δ:T) (κl:(Nat×Int×LA×LA)->T) (κr:(Nat×LA)->T):T:=br (decide (c<f)) (br (ixI d c) (br (ixT d c 3 [Sh.list 3,Sh.int .i64,Sh.int .i64] 0) (br (!xdk (gC d c 1).toInt (gC d c 2).toInt) (κl (e,i64.wrap (c+1),b,a)) (br ((xhf (gC d c 0).toList).isSome) (br (xeO d c&&xLj (Sh.int .i64) (xLE (AV.int .i64 0) b (xbL d c))) (br (!xLQ b (xbL d c)) (br (decide (b.length<4611686018427387904)&&xeO d c) (br (rmB e a 1 48) (br (xfK d f e c b a) (br (xfJ d f e c b a&&(xL0 2 ((xaG d e c a).getD 1 .top)&&(xaG d e c a).length==2)) (br (xfJ d f e c b a&&(xL0 2 ((xaG d e c a).getD 1 .top)&&((xaG d e c a).length==2&&(2*xap d e c a==2*xap d e c a&&(xap d e c a==xap d e c a&&(xap d e c a==xap d e c a&&(decide ((xap d e c a+1)*16<=140737488355328)&&decide (xap d e c a+1<=4611686018427387904)))))))) (br (xfK d f e c b a) (br (decide (xa7 e<(xdG d e c a).length)&&((xcJ d e c a).length==2&&(xap d e c a+1==(xeN d e c a).length&&xMn ((xcJ d e c a).getD 1 .top) (xap d e c a+1)))) (κl (e+1,i64.wrap (c+1),xLC b (xbL d c) (AV.int .i64 (↑e:Int)),(xdG d e c a).set (xa7 e) (AV.agg (List.take 1 (xcJ d e c a)++[AV.list 2 (xeN d e c a)]++List.drop 2 (xcJ d e c a))))) δ) δ) δ) δ) δ) δ) δ) (br (xfL d e c b) (br (xfM d c b a&&(xL0 2 ((a.getD (xaj d c b) .top).cells.getD 1 .top)&&(a.getD (xaj d c b) .top).cells.length==2)) (br (xfM d c b a&&(xL0 2 ((a.getD (xaj d c b) .top).cells.getD 1 .top)&&((a.getD (xaj d c b) .top).cells.length==2&&(2*xaq d c b a==2*xaq d c b a&&(xaq d c b a==xaq d c b a&&(xaq d c b a==xaq d c b a&&(decide ((xaq d c b a+1)*16<=140737488355328)&&decide (xaq d c b a+1<=4611686018427387904)))))))) (br (xfL d e c b) (br (decide (xaj d c b<(xdH d c b a).length)&&((xcK d c b a).length==2&&(xaq d c b a+1==(xeM d c b a).length&&xMn ((xcK d c b a).getD 1 .top) (xaq d c b a+1)))) (κl (e,i64.wrap (c+1),b,(xdH d c b a).set (xaj d c b) (AV.agg (List.take 1 (xcK d c b a)++[AV.list 2 (xeM d c b a)]++List.drop 2 (xcK d c b a))))) δ) δ) δ) δ) δ)) δ) δ)) δ) δ) (κr (e,a))
def xaY (d:LA) (e:Int):StT (Nat×Int×LA×LA) (Nat×LA):=fun (c,f,a,b)=>xcx d e c f a b none inL inR
def xmM:=xGJ.l 60 0 [] [] Tryz.f86 0 lk0 [3,4,11,12,13] [4] [(4,2,214884679808)] (q5 (xMg 0 0 0 0) (xMf 1 0 0) (qL 3) qI qI) (q2 (qB 0 2 1208925819615312141615104 xL7) (qB 0 2 214884679808 xL7)) (fun (_,c,d,e,f,_) (a,b,_)=>(xaY d e,(c,f,a,b),fun p=>(.leaf (.exit 0) [AV.osl 0 0 0 p.1] [bF 0 2 214884679808 p.2]))) (0,[]) fun (_,_,d,e,_,_) _ (c,f,a,b)=>((((),c,d,e,f,()),(a,b,())),xcx d e c f a b none)
def xk6 (l:LA):=Iter (xaY l (↑l.length:Int)) (0,0,[],[])
def xk5 (l:LA):=(xk6 l).getD (0,[])
def xhT (l:LA):=(xk5 l).fst
def xk4 (l:LA):=(xk5 l).snd
def xk3 (l:LA):=xf7 (xhT l) (xk4 l)
def xk2 (l:LA):=(xk3 l).getD []
def xlV {T:Type} (l:LA) (δ:T) (κ:LA->T):T:=br ((xk6 l).isSome) (br (xLR 2 1 (xk4 l)) (br ((xk3 l).isSome) (br (decide (0+xhT l<=(xk2 l).length)&&true) (κ (List.take (xhT l) (List.drop 0 (xk2 l)))) δ) δ) δ) δ
def xit (l:LA):=xlV l none some
def xGK:EO:=xGJ.f Tryz.func86 60 0 [] [(4,xmM.lp)] (lk1 xmM.ok) (u1 (uL 3)) (fun (l,_) _=>xlV l) (fun _ p=>AV.list 2 p) []
end Go.Sim.M
end
