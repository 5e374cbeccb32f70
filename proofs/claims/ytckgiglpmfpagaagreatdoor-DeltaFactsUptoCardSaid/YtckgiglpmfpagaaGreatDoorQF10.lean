/- Part 10 of the proof of the law. -/
import Derived.Test.YtckgiglpmfpagaaGreatDoorQF9
import Derived.WalkKit
import Derived.BigCall
import Derived.Lib.Strings
import Derived.Lib.Slices
import Derived.Lib.Walk
import Derived.Lib.Builder
import Derived.Lib.UnsafeStr
import Derived.Laws.Externs
import Derived.Laws.IdiomCopy
import Derived.Laws.BitsLemmas
import Derived.RegionTactic
set_option linter.unusedVariables false
set_option linter.unusedSimpArgs false
set_option linter.unnecessarySimpa false
noncomputable section
namespace Go.Proofs
open Go.RowKit Go.Lib
theorem Tryz.lies_builder (n:Nat) (hn:1<=n):liesAt Tryz.prog Tryz.prog.depth 157 n 0 157 1=true:=by
 have hc:Tryz.prog.cellsOf 157=2:=by kernel_rfl
 have hd:Tryz.prog.depth=(2*(Tryz.prog.types.size+Made.depth)+1)+1:=rfl;generalize Tryz.prog=P at *;rw [hd];simp only [liesAt,Bool.or_eq_true];left;rw [hd];simp [rowAt,hc,hn,sameLayout]
set_option maxHeartbeats 2000000 in
set_option maxRecDepth 100000 in
theorem Tryz.copyCheck_used (b:Nat) (w:World) (h0:w.cell? ⟨b,0,none⟩=some (.pointer (some ⟨b,0,none⟩))) :
  Calls Tryz.prog 142 #[.pointer (some ⟨b,0,none⟩)] w fun e w'=>e=.returned (.tuple #[])/\w'=w:=by
 have hsz:(Tryz.prog.info? 157).map (·.size)=some 2:=by kernel_rfl
 obtain ⟨j,hj,_⟩:=Option.map_eq_some_iff.1 hsz;have tp:Tryz.prog.underlying 154=some (.pointer 157):=by kernel_rfl
 go_enter Tryz.func142,Tryz.ntmps142
 go_wp2
 rw [Lib.run_neq_ptr_same w _ tp hj]
 go_wp2
 go_end0
 exact ⟨rfl,rfl⟩
set_option maxHeartbeats 2000000 in
set_option maxRecDepth 100000 in
theorem Tryz.copyCheck_fresh (b n:Nat) (hn:1<=n) (w:World) (h0:w.cell? ⟨b,0,none⟩=some (.pointer none)) (J:w.shape? b=some (157,n*2)) (Q:w.frozen? ⟨b,0,none⟩=false) :
  Calls Tryz.prog 142 #[.pointer (some ⟨b,0,none⟩)] w fun e w'=>e=.returned (.tuple #[])/\w'=w.setCell ⟨b,0,none⟩ (.pointer (some ⟨b,0,none⟩)):=by
 have hsz:(Tryz.prog.info? 157).map (·.size)=some 2:=by kernel_rfl
 obtain ⟨j,hj,O⟩:=Option.map_eq_some_iff.1 hsz;have hc:Tryz.prog.cellsOf 157=2:=by kernel_rfl
 have tp:Tryz.prog.underlying 154=some (.pointer 157):=by kernel_rfl
 have tu:Tryz.prog.underlying 195=some .unsafePointer:=by kernel_rfl
 have q:liesAt Tryz.prog Tryz.prog.depth 157 (n*2 / Tryz.prog.cellsOf 157) 0 157 1=true:=by
  rw [hc,Nat.mul_div_cancel _ (by decide)];exact Tryz.lies_builder n hn
 have c1:=Lib.run_to_unsafe w ⟨b,0,none⟩ tp tu hj (by rw [O];decide) J (show 0<n*2 by omega)
 have c2:=Lib.run_from_unsafe w ⟨b,0,none⟩ tu tp hj J q;clear q
 go_enter Tryz.func142,Tryz.ntmps142
 go_wp2
 rw [run_callFunc_extern Tryz.func161 (by kernel_rfl) (by kernel_rfl) (by kernel_rfl) (e:=Extern.AbiNoEscape.same) (by kernel_rfl)]
 rw [Lib.run_noEscape];simp only [Result.andThen];rw [Oper.upon_value]
 go_wp2
 go_end0
 exact ⟨rfl,rfl⟩
set_option maxHeartbeats 2000000 in
set_option maxRecDepth 100000 in
theorem Tryz.builder_string (b g cap:Nat) (l:List UInt8) (cur:Array Value) (w:World) (hb:w.cell? ⟨b,1,none⟩=some (.slice (some ⟨g,0,none⟩) l.length cap))
  (hg:w.heap[g]?=some (.cells cur 5 (0,0))) (q:∀ j x,l[j]?=some x->w.cell? ((⟨g,0,none⟩:Addr).add j)=some (.int .u8 x.toNat)) (Q:l.length<=cur.size) (hcap:cap≠0) (h0:l≠[]) (J:l.length<=9223372036854775807) :
  Calls Tryz.prog 126 #[.pointer (some ⟨b,0,none⟩)] w fun e w'=>e=.returned (.string ⟨l.toArray⟩)/\w'=w.drew.freeze ⟨g,0,none⟩ l.length:=by
 have c1:w.drew.cell? ⟨b,1,none⟩=some (.slice (some ⟨g,0,none⟩) l.length cap):=hb;have U:Tryz.prog.underlying 179=some (.pointer 5):=by kernel_rfl
 have O:Tryz.prog.cellsOf 5=1:=by kernel_rfl
 have Y:(Builtin.unsafeSliceData_ #[155] 179 #[.slice (some ⟨g,0,none⟩) l.length cap]).run Tryz.prog w.drew=.ok (.pointer (some ⟨g,0,none⟩)) w.drew :=
  Lib.run_unsafeSliceData_row _ _ _ _ _ _ hcap
 have V:(Builtin.unsafeString_ #[179,3] 9 #[.pointer (some ⟨g,0,none⟩),.int .i64 l.length]).run Tryz.prog w.drew=.ok (.string ⟨l.toArray⟩) (w.drew.freeze ⟨g,0,none⟩ l.length) :=
  Lib.run_unsafeString_row w.drew 179 3 9 5 U O g cur.size (by have hg':w.drew.heap[g]?=some (.cells cur 5 (0,0)):=hg;simp [World.shape?,hg']) l h0 Q J q
 clear q
 go_enter Tryz.func126,Tryz.ntmps126
 go_wp2
 go_region
 all_goals (go_wp2;go_ret;exact ⟨rfl,rfl⟩)
set_option maxHeartbeats 2000000 in
set_option maxRecDepth 100000 in
theorem Tryz.builder_string_nil (b:Nat) (w:World) (hb:w.cell? ⟨b,1,none⟩=some (.slice none 0 0)) :
  Calls Tryz.prog 126 #[.pointer (some ⟨b,0,none⟩)] w fun e w'=>e=.returned (.string ⟨#[]⟩)/\w'=w.drew:=by
 have c1:w.drew.cell? ⟨b,1,none⟩=some (.slice none 0 0):=hb;have q:(Builtin.unsafeSliceData_ #[155] 179 #[.slice none 0 0]).run Tryz.prog w.drew=.ok (.pointer none) w.drew:=rfl;have J:=Lib.run_unsafeString_none (P:=Tryz.prog) w.drew 179 3 9 none
 go_enter Tryz.func126,Tryz.ntmps126
 go_wp2
 go_region
 all_goals (go_wp2;go_ret;exact ⟨rfl,rfl⟩)
end Go.Proofs
end
noncomputable section
namespace Go.Sim
open Go.RowKit Go.Proofs
def M.isByte:AV->Bool
 | .int .u8 n=>decide (0<=n)&&decide (n<256)
 | _=>false
def M.isBytes (xs:List AV):Bool:=xs.all M.isByte
def M.strOf (xs:List AV):List UInt8:=xs.map fun x=>UInt8.ofNat x.toInt.toNat
theorem xum (s:List UInt8):M.strOf (M.byteAVs s)=s:=by
 unfold M.strOf M.byteAVs;rw [List.map_map]
 conv=>rhs;rw [<-List.map_id s]
 exact List.map_congr_left fun u _=>by simp [AV.toInt]
theorem xsi (s:List UInt8):M.isBytes (M.byteAVs s)=true:=by
 unfold M.isBytes M.byteAVs;rw [zI];intro x hx;obtain ⟨u,_,rfl⟩:=zK.1 hx;have:=u.toNat_lt;simp only [M.isByte,zf,zl];omega
theorem xo3 (s t:List UInt8):M.byteAVs (s++t)=M.byteAVs s++M.byteAVs t:=by simp [M.byteAVs]
theorem xje (s:List UInt8):(M.byteAVs s).length=s.length:=by simp [M.byteAVs]
theorem xyA {x:AV} (h:M.isByte x=true):∃ u:UInt8,x=.int .u8 u.toNat:=by
 unfold M.isByte at h;split at h
 . rename_i n;simp only [zf,zl] at h;refine ⟨UInt8.ofNat n.toNat,?_⟩;have:(UInt8.ofNat n.toNat).toNat=n.toNat:=by rw [UInt8.toNat_ofNat',Nat.mod_eq_of_lt (by omega)]
   rw [this];congr 1;omega
 . simp at h
theorem xuW (w:World) (g n k:Nat) (h:k≠g):(w.freeze ⟨g,0,none⟩ n).heap[k]?=w.heap[k]?:=by
 unfold World.freeze;split
 . rfl
 . simp [Array.getElem?_modify,Ne.symm h]
theorem xvx (w:World) (g n:Nat):(w.freeze ⟨g,0,none⟩ n).heap.size=w.heap.size:=by
 unfold World.freeze;split
 . rfl
 . simp
theorem xzL {w w':World} {A:Nat->Prop} {M:Id->Option MB} {B:Nat} {H:List Box} (hR:HR w A M B H) {id:Nat} {m:MB} {bx:Box} (q:0<m.cap) (hm:M (.b id)=some m) (hb:H[id]?=some bx) (Y:isC bx.ty=false) (aa:bx.frz=false) (U:BoxAt w A M B (.b id) m bx) (v:Nat) (hv:m.ver<v) (sz:Nat) (ty:TypeId) (V:isC ty=false)
  (hs:w'.heap.size=w.heap.size) (hw:∀ b,b≠m.b->w'.heap[b]?=w.heap[b]?) :
  HR w' A (MSet M (.b id) ⟨m.b,v,sz,0,ty⟩) B (H.set id ⟨v,sz,ty,[],false,true⟩)/\Mv w A M w' A (MSet M (.b id) ⟨m.b,v,sz,0,ty⟩):=by
 have Z:A m.b:=(U.guard q).1 aa;have O:MExt M (MSet M (.b id) ⟨m.b,v,sz,0,ty⟩):=xmb hm (.inr hv);have hw':∀ b,b<w.heap.size->¬ A b->w'.heap[b]?=w.heap[b]?:=fun b _ hA=>hw b fun e=>hA (e▸Z)
 have hc:∀ {p:Prop},0<(0:Nat)->p:=fun h=>absurd h (by omega)
 have J:∀ i m1,MSet M (.b id) ⟨m.b,v,sz,0,ty⟩ i=some m1->0<m1.cap->i≠.b id/\M i=some m1:=fun i m1 h1 h0=>by
  by_cases hi:i=.b id
  . subst hi;simp [MSet] at h1;subst h1;exact absurd h0 (by simp)
  . exact ⟨hi,by simpa [MSet,hi] using h1⟩
 refine ⟨⟨fun i m1 h1=>?_,fun i i' m1 m2 h1 h2 c1 c2 he=>hR.inj i i' m1 m2 (J i m1 h1 c1).2 (J i' m2 h2 c2).2 c1 c2 he,fun b hb=>by rw [hs];exact hR.lt b hb⟩,⟨by omega,hw',fun _ _ h=>h,fun _ _ h _=>h,O,⟨fun b _ hb=>hw b fun e=>hb (.b id) m hm q e.symm,fun i m1 h1 h0=>.inl ⟨i,m1,(J i m1 h1 h0).2,h0,rfl⟩⟩⟩⟩
 by_cases hi:i=.b id
 . subst hi;have:m1=⟨m.b,v,sz,0,ty⟩:=by simp [MSet] at h1;exact h1.symm
   subst this;exact ⟨⟨v,sz,ty,[],false,true⟩,by rw [xbG,zL (xcK hb)],rfl,rfl,xbb V,zQ _,zQ _,fun x hx=>by simp at hx,hc,hc,hc,hc⟩
 . have Q:M i=some m1:=by simpa [MSet,hi] using h1
   obtain ⟨ab,g1,g2⟩:=hR.box i m1 Q;exact ⟨ab,by rw [xck hb Y V hi];exact g1,g2.mono (fun h0=>hw _ fun e=>hi (hR.inj i (.b id) m1 m Q hm h0 q e)) hw' (by omega) (fun _ _ h=>h) g2.guard O⟩
theorem xmF {w:World} {A:Nat->Prop} {M:Id->Option MB} {B:Nat} {H:List Box} (hR:HR w A M B H) {v:Value} {a x:AV} {ty:TypeId} {frz pm:Bool} (J:isC ty=false) (hv:Rel w A M v (.own (.b 0) 0 0 0)) (hb:H[0]?=some ⟨0,2,ty,[.agg [a,x]],frz,pm⟩) :
  ∃ m c,M (.b 0)=some m/\BoxAt w A M B (.b 0) m ⟨0,2,ty,[.agg [a,x]],frz,pm⟩/\1<=m.cap/\v=.pointer (some ⟨m.b,0,none⟩)/\w.heap[m.b]?=some (.cells c ty (0,0))/\c.size=m.cap*2/\m.sz=2 /\
   Rel w A (MP M pm) (c.getD 0 undef) a/\Rel w A (MP M pm) (c.getD 1 undef) x/\w.cell? ⟨m.b,0,none⟩=some (c.getD 0 undef)/\w.cell? ⟨m.b,1,none⟩=some (c.getD 1 undef):=by
 obtain ⟨m,hm,q,hp⟩:=xmU hR hv (xk9 hb J);have hcap:1<=m.cap:=q.fits;have hsz:m.sz=2:=q.sz.symm;obtain ⟨c,h1,h2,h3⟩:=q.plainCells J (by omega)
 rw [hsz] at h2;have r0:=h3 0 0 (by simp) (by omega)
 have r1:=h3 0 1 (by simp) (by omega)
 have h1:w.heap[m.b]?=some (.cells c ty (0,0)):=h1;have e0:w.cell? ⟨m.b,0,none⟩=some (c.getD 0 undef):=by
  have:0<c.size:=by omega
  simp [World.cell?,h1,this]
 have e1:w.cell? ⟨m.b,1,none⟩=some (c.getD 1 undef):=by
  have:1<c.size:=by omega
  simp [World.cell?,h1,this]
 refine ⟨m,c,hm,q,hcap,by simpa using hp,h1,h2,hsz,by simpa [AV.cells] using r0,by simpa [AV.cells] using r1,e0,e1⟩
def xoA:List AV->List Box->Option (Bool×AV×List Box)
 | [.own (.b 0) 0 0 0],⟨0,2,ty,[.agg [.nilptr,x]],false,pm⟩::r=>match Nat.beq ty 157 with
  | true=>some (true,.tuple [],⟨0,2,ty,[.agg [.own (.b 0) 0 0 0,x]],false,false⟩::r)
  | false=>none
 | [.own (.b 0) 0 0 0],⟨0,2,ty,[.agg [.own (.b 0) 0 0 0,x]],false,pm⟩::r=>match Nat.beq ty 157 with
  | true=>some (true,.tuple [],⟨0,2,ty,[.agg [.own (.b 0) 0 0 0,x]],false,pm⟩::r)
  | false=>none
 | _,_=>none
theorem xvV:OmOk Tryz.prog xGh 142 xoA:=fun xs H r H' h=>by
 unfold xoA at h;split at h
 . rename_i ty x pm rest;split at h
   case h_2=>simp at h
   rename_i J;have J:=zg J;subst J;simp only [z6,zb,true_and] at h;obtain ⟨rfl,rfl⟩:=h;refine ⟨xfo Tryz.func142 rfl (by kernel_rfl),fun w0 w A M vs hI hB hR O=>?_⟩
   obtain ⟨v,rfl,hv⟩:=rc1 O;obtain ⟨m,c,hm,q,hcap,rfl,hh,Q,hsz,r0,r1,e0,e1⟩:=xmF hR (by rfl) hv rfl
   have hn:c.getD 0 undef=.pointer none:=by
    revert r0;generalize c.getD 0 undef=z;intro r0;cases r0;rfl
   rw [hn] at e0;refine (Tryz.copyCheck_fresh m.b m.cap hcap w e0 (by simp [World.shape?,hh,Q]) (Lib.frozen_of_heap hh 0)).mono ?_
   rintro e w' ⟨rfl,rfl⟩;rw [setCell_eq_setRow w m.b 0 c _ _ _ hh];have aa:x.one=true:=by
    have:=q.ok (.agg [.nilptr,x]) (by simp)
    simp only [AV.okElem,AV.cells,List.all_cons,zf] at this;exact this.2.2.1
   have U:(0:Nat)=m.ver:=q.ver;obtain ⟨g1,g2,g3,g4,gt,g5⟩:=xlZ (m':=m) (bx':=⟨0,2,157,[.agg [.own (.b 0) 0 0 0,x]],false,false⟩) hR (by omega) hm rfl q rfl rfl rfl (c':=c.setIfInBounds 0 (.pointer (some ⟨m.b,0,none⟩))) rfl rfl rfl rfl (.inl rfl)
    U (by rw [hsz]) (by have:=q.ty;rw [xbb rfl] at this;exact this) rfl hcap (fun y hy=>by
     simp only [zv] at hy;subst hy;rw [hsz];simp [AV.okElem,AV.cells,aa,show (AV.own (.b 0) 0 0 0).one=true from rfl]) (by rw [hsz];simpa using Q) (fun i j hi hj=>by
     have Z:i=0:=by simpa using hi
     subst Z;rw [hsz] at hj |-;have ab:0<c.size:=by omega
     have ac:1<c.size:=by omega
     match j,hj with
     | 0,_ =>
      have:(c.setIfInBounds 0 (.pointer (some ⟨m.b,0,none⟩))).getD (0*2+0) undef=.pointer (some ⟨m.b,0,none⟩):=by simp [ab]
      rw [this];exact .own _ (.b 0) 0 0 0 m hm (by omega) rfl (fun _=>by rw [xjP (q.nomap rfl)];simp)
     | 1,_ =>
      have:(c.setIfInBounds 0 (.pointer (some ⟨m.b,0,none⟩))).getD (0*2+1) undef=c.getD 1 undef:=by simp [Array.getElem?_setIfInBounds]
      rw [this];exact r1.unmp)
   exact ⟨_,A,_,rfl,hB.trans g4,fun _ _=>Iff.rfl,Ev.refl.step ⟨by simp [World.setRow],g3,fun _ _ h=>h,fun _ _ h _=>h,g2,gt⟩,by simpa using g1,.tuple #[] [] rfl (by simp)⟩
 . rename_i ty x pm rest;split at h
   case h_2=>simp at h
   rename_i J;have J:=zg J;subst J;simp only [z6,zb,true_and] at h;obtain ⟨rfl,rfl⟩:=h;refine ⟨xfo Tryz.func142 rfl (by kernel_rfl),fun w0 w A M vs hI hB hR O=>?_⟩
   obtain ⟨v,rfl,hv⟩:=rc1 O;obtain ⟨m,c,hm,q,hcap,rfl,hh,Q,hsz,r0,r1,e0,e1⟩:=xmF hR (by rfl) hv rfl
   obtain ⟨m',V,Y,hp⟩:=xmU hR r0.unmp (xk9 (n:=0) (bx:=⟨0,2,157,[.agg [.own (.b 0) 0 0 0,x]],false,pm⟩) rfl rfl);rw [hm] at V;obtain rfl:=(z6 _ _).mp V;rw [hp] at e0;refine (Tryz.copyCheck_used m.b w (by simpa using e0)).mono ?_
   rintro e w' ⟨rfl,rfl⟩;exact ⟨_,A,M,rfl,hB,fun _ _=>Iff.rfl,Ev.refl,hR,.tuple #[] [] rfl (by simp)⟩
 . simp at h
def xkg:List AV->List Box->Option (Bool×AV×List Box)
 | [.own (.b 0) 0 0 0],[⟨0,2,ty,[.agg [a,.osl (.b 1) u 0 n]],false,pm⟩,⟨u',1,ty',bs,false,pm'⟩]=>match Nat.beq ty 157&&(Nat.beq ty' 5&&Nat.beq u u') with
  | true=>some ((decide (n=bs.length)&&M.isBytes bs)&&decide (bs.length≠0),.str (M.strOf bs),[⟨0,2,ty,[.agg [a,.osl (.b 1) u 0 n]],false,pm⟩,⟨u+1,1,ty',[],false,true⟩])
  | false=>none
 | [.own (.b 0) 0 0 0],⟨0,2,ty,[.agg [a,.nils]],false,pm⟩::r=>match Nat.beq ty 157 with
  | true=>some (true,.str [],⟨0,2,ty,[.agg [a,.nils]],false,pm⟩::r)
  | false=>none
 | _,_=>none
theorem xrt:OmOk Tryz.prog xGh 126 xkg:=fun xs H r H' h=>by
 unfold xkg at h;split at h
 . rename_i ty a u n pm u' al bs af;split at h
   case h_2=>simp at h
   rename_i O;simp only [zf] at O;obtain ⟨h1,h2,h3⟩:=O;have h1:=zg h1;have h2:=zg h2;have h3:=zg h3;subst h1 h2 h3;simp only [z6,zb,zf,zl] at h;obtain ⟨⟨⟨rfl,ag⟩,hne⟩,rfl,rfl⟩:=h;refine ⟨xfo Tryz.func126 rfl (by kernel_rfl),fun w0 w A MM vs hI hB hR U=>?_⟩
   obtain ⟨v,rfl,hv⟩:=rc1 U;obtain ⟨m,c,hm,Y,hcap,rfl,hh,ai,hsz,r0,r1,e0,e1⟩:=xmF hR (by rfl) hv rfl
   obtain ⟨m1,a1,ad,q,ak,ac,ah⟩:=xiR hR r1.unmp (xk9 (n:=1) (bx:=⟨u,1,5,bs,false,af⟩) rfl rfl);have J:0<m1.cap:=by have:=q.fits;simp only at this;omega
   have ha:=ah J;subst ha;obtain ⟨c1,k1,k2,k3⟩:=q.plainCells rfl J;have Q:m1.sz=1:=q.sz.symm;have aj:5=m1.ty:=by have:=q.ty;rw [xbb rfl] at this;exact this
   rw [ac] at e1;simp only [Nat.zero_mul,Nat.sub_zero] at e1;have hl:(M.strOf bs).length=bs.length:=by simp [M.strOf]
   have V:∀ j,j<bs.length->∃ uu:UInt8,bs.getD j .top=.int .u8 uu.toNat/\(M.strOf bs)[j]?=some uu/\w.cell? ⟨m1.b,j,none⟩=some (.int .u8 uu.toNat):=fun j hj=>by
    have ae:bs.getD j .top∈bs:=xaZ hj;obtain ⟨uu,hu⟩:=xyA (zI.1 ag _ ae);refine ⟨uu,hu,?_,?_⟩
    . have:bs[j]?=some (bs.getD j .top):=xo6 hj;simp only [M.strOf,List.getElem?_map,this,hu,Option.map_some,AV.toInt,zN,UInt8.ofNat_toNat]
    . have hr:=k3 j 0 hj (by omega)
      rw [Q,hu] at hr;simp only [Nat.mul_one,Nat.add_zero,AV.cells,List.getD_cons_zero] at hr;have:=hr.int_inv;have Z:j<c1.size:=by have:=q.fits;simp only at this;rw [k2,Q];omega
      simp only [World.cell?,k1];have e2:c1.getD j undef=c1[j]:=by simp [Z]
      rw [e2] at this;simp [Z,this]
   refine (Tryz.builder_string m.b m1.b m1.cap (M.strOf bs) c1 w (by rw [hl];exact e1) k1 (fun j x hx=>by
    have hj:j<bs.length:=by
     rcases zJ j bs.length with h'|h'
     . exact h'
     . rw [zz (by omega)] at hx;simp at hx
    obtain ⟨uu,g1,g2,g3⟩:=V j hj;rw [g2] at hx;obtain rfl:=(z6 _ _).mp hx;by_cases aa:j=0
    . subst aa;simpa [Addr.add] using g3
    . simpa [Addr.add,aa] using g3) (by rw [hl,k2,Q];have:=q.fits;simp only at this;omega) (by omega) (fun e=>hne (by rw [<-hl,e];rfl)) (by rw [hl];have h1:=q.fits;have h2:=q.capm;simp only at h1;unfold maxLen at h2;omega)).mono ?_
   rintro e w' ⟨rfl,rfl⟩;rw [hl];have ab:=q.low J;obtain ⟨g1,g2⟩:=xzL hR J ad rfl rfl rfl q (u+1) (by have:=q.ver;simp only at this;omega) 1 5 rfl (w':=w.drew.freeze ⟨m1.b,0,none⟩ bs.length) (by rw [xvx];rfl) (fun b hb=>by rw [xuW _ _ _ _ hb];rfl)
   exact ⟨_,A,_,rfl,Lib.below_freeze (hB.drew) (p:=⟨m1.b,0,none⟩) ab _,fun _ _=>Iff.rfl,Ev.refl.step g2,by simpa using g1,.str _⟩
 . rename_i ty a pm rest am;split at h
   case h_2=>simp at h
   rename_i O;have O:=zg O;subst O;simp only [z6,zb,true_and] at h;obtain ⟨rfl,rfl⟩:=h;refine ⟨xfo Tryz.func126 rfl (by kernel_rfl),fun w0 w A MM vs hI hB hR U=>?_⟩
   obtain ⟨v,rfl,hv⟩:=rc1 U;obtain ⟨m,c,hm,Y,hcap,rfl,hh,ai,hsz,r0,r1,e0,e1⟩:=xmF hR (by rfl) hv rfl
   have hn:c.getD 1 undef=.slice none 0 0:=by
    revert r1;generalize c.getD 1 undef=z;intro r1;cases r1;rfl
   rw [hn] at e1;refine (Tryz.builder_string_nil m.b w e1).mono ?_;rintro e w' ⟨rfl,rfl⟩;exact ⟨_,A,MM,rfl,hB.drew,fun _ _=>Iff.rfl,Ev.refl.step ⟨zd _,fun _ _ _=>rfl,fun _ _ h=>h,fun _ _ h _=>h,MExt.refl MM,⟨fun _ _ _=>rfl,fun i m1 h1 h0=>.inl ⟨i,m1,h1,h0,rfl⟩⟩⟩,hR.drew,.str _⟩
 . simp at h
end Go.Sim
end
noncomputable section
namespace Go.Sim
open Go.RowKit
variable {α β γ : Type}
structure Pat (α β:Type) where
 enc:β->α
 dec:α->Option β
 ok:∀ a b,dec a=some b->a=enc b
def xGm:Pat α α:=⟨fun b=>b,some,fun a b h=>by simpa using h⟩
def pInt (k:IntKind):Pat AV Int:=⟨.int k,fun v=>match v with
 | .int k' n=>match decide (k'=k) with
  | true=>some n
  | false=>none
 | _=>none,fun v n h=>by
 split at h
 . split at h
   . rename_i hk;simp only [z6] at h;rw [of_decide_eq_true hk,h]
   . simp at h
 . simp at h⟩
def pStr:Pat AV (List UInt8):=⟨.str,fun v=>match v with
 | .str s=>some s
 | _=>none,fun v n h=>by
 split at h
 . simp only [z6] at h;rw [h]
 . simp at h⟩
def pBool:Pat AV Bool:=⟨.bool,fun v=>match v with
 | .bool s=>some s
 | _=>none,fun v n h=>by
 split at h
 . simp only [z6] at h;rw [h]
 . simp at h⟩
def xGB (sz:Nat) (q:Pat (List AV) β):Pat AV β:=⟨fun b=>.list sz (q.enc b),fun v=>match v with
 | .list z xs=>match Nat.beq z sz with
  | true=>q.dec xs
  | false=>none
 | _=>none,fun v n h=>by
 split at h
 . split at h
   . rename_i hz;rw [zg hz,q.ok _ _ h]
   . simp at h
 . simp at h⟩
def xGu (id ver off:Nat):Pat AV Nat:=⟨.osl id ver off,fun v=>match v with
 | .osl (.b i) e o n=>match Nat.beq i id&&(Nat.beq e ver&&Nat.beq o off) with
  | true=>some n
  | false=>none
 | _=>none,fun v n h=>by
 split at h
 . split at h
   . rename_i hz;simp only [zf] at hz;simp only [z6] at h;rw [zg hz.1,zg hz.2.1,zg hz.2.2,h]
   . simp at h
 . simp at h⟩
def pOslV (id off:Nat):Pat AV (Nat×Nat):=⟨fun p=>.osl id p.1 off p.2,fun v=>match v with
 | .osl (.b i) e o n=>match Nat.beq i id&&Nat.beq o off with
  | true=>some (e,n)
  | false=>none
 | _=>none,fun v n h=>by
 split at h
 . split at h
   . rename_i hz;simp only [zf] at hz;simp only [z6] at h;rw [zg hz.1,zg hz.2,<-h]
   . simp at h
 . simp at h⟩
def pOwnV (id j:Nat):Pat AV (Nat×Nat):=⟨fun p=>.own id p.1 p.2 j,fun v=>match v with
 | .own (.b a) b c d=>match Nat.beq a id&&Nat.beq d j with
  | true=>some (b,c)
  | false=>none
 | _=>none,fun v n h=>by
 split at h
 . split at h
   . rename_i hz;simp only [zf] at hz;simp only [z6] at h;rw [zg hz.1,zg hz.2,<-h]
   . simp at h
 . simp at h⟩
def xGv (id ver i j:Nat):Pat AV Unit:=⟨fun _=>.own id ver i j,fun v=>match v with
 | .own (.b a) b c d=>match Nat.beq a id&&(Nat.beq b ver&&(Nat.beq c i&&Nat.beq d j)) with
  | true=>some ()
  | false=>none
 | _=>none,fun v n h=>by
 split at h
 . split at h
   . rename_i hz;simp only [zf] at hz;rw [zg hz.1,zg hz.2.1,zg hz.2.2.1,zg hz.2.2.2]
   . simp at h
 . simp at h⟩
def pEptr (sz i j:Nat) (q:Pat (List AV) β):Pat AV β:=⟨fun b=>.eptr sz (q.enc b) i j,fun v=>match v with
 | .eptr a xs c d=>match Nat.beq a sz&&(Nat.beq c i&&Nat.beq d j) with
  | true=>q.dec xs
  | false=>none
 | _=>none,fun v n h=>by
 split at h
 . split at h
   . rename_i hz;simp only [zf] at hz;rw [zg hz.1,zg hz.2.1,zg hz.2.2,q.ok _ _ h]
   . simp at h
 . simp at h⟩
def xGw (q:Pat (List AV) β):Pat AV β:=⟨fun b=>.agg (q.enc b),fun v=>match v with
 | .agg cs=>q.dec cs
 | _=>none,fun v n h=>by
 split at h
 . rw [q.ok _ _ h]
 . simp at h⟩
def xFY (f:Nat) (q:Pat (List AV) β):Pat AV β:=⟨fun b=>.func f (q.enc b),fun v=>match v with
 | .func g cs=>match Nat.beq g f with
  | true=>q.dec cs
  | false=>none
 | _=>none,fun v n h=>by
 split at h
 . split at h
   . rename_i hz;rw [zg hz,q.ok _ _ h]
   . simp at h
 . simp at h⟩
def pNils:Pat AV Unit:=⟨fun _=>.nils,fun v=>match v with
 | .nils=>some ()
 | _=>none,fun v n h=>by
 split at h
 . rfl
 . simp at h⟩
def pNilptr:Pat AV Unit:=⟨fun _=>.nilptr,fun v=>match v with
 | .nilptr=>some ()
 | _=>none,fun v n h=>by
 split at h
 . rfl
 . simp at h⟩
def xGk:Pat (List α) Unit:=⟨fun _=>[],fun v=>match v with
 | []=>some ()
 | _=>none,fun v n h=>by
 split at h
 . rfl
 . simp at h⟩
def xGi (p:Pat α β) (q:Pat (List α) γ):Pat (List α) (β×γ):=⟨fun b=>p.enc b.1::q.enc b.2,fun v=>match v with
 | x::t=>match p.dec x with
  | some b=>match q.dec t with
   | some c=>some (b,c)
   | none=>none
  | none=>none
 | _=>none,fun v n h=>by
 split at h
 . split at h
   . rename_i hp;split at h
     . rename_i hq;cases h;rw [p.ok _ _ hp,q.ok _ _ hq]
     . simp at h
   . simp at h
 . simp at h⟩
def xGy (ver sz ty:Nat) (frz pm:Bool) (q:Pat (List AV) β):Pat Box β:=⟨fun b=>⟨ver,sz,ty,q.enc b,frz,pm⟩,fun v=>match v with
 | ⟨a,b,c,xs,f,p⟩=>match Nat.beq a ver&&(Nat.beq b sz&&(Nat.beq c ty&&((f==frz)&&(p==pm)))) with
  | true=>q.dec xs
  | false=>none,fun v n h=>by
 obtain ⟨a,b,c,xs,f,p⟩:=v;dsimp only at h;split at h
 . rename_i hz;simp only [zf,beq_iff_eq] at hz;rw [zg hz.1,zg hz.2.1,zg hz.2.2.1,hz.2.2.2.1,hz.2.2.2.2,q.ok _ _ h]
 . simp at h⟩
def pBoxV (sz ty:Nat) (frz pm:Bool) (q:Pat (List AV) β):Pat Box (Nat×β):=⟨fun b=>⟨b.1,sz,ty,q.enc b.2,frz,pm⟩,fun v=>match v with
 | ⟨a,b,c,xs,f,p⟩=>match Nat.beq b sz&&(Nat.beq c ty&&((f==frz)&&(p==pm))) with
  | true=>match q.dec xs with
   | some y=>some (a,y)
   | none=>none
  | false=>none,fun v n h=>by
 obtain ⟨a,b,c,xs,f,p⟩:=v;dsimp only at h;split at h
 . rename_i hz;simp only [zf,beq_iff_eq] at hz;split at h
   . rename_i y hy;simp only [z6] at h;rw [zg hz.1,zg hz.2.1,hz.2.2.1,hz.2.2.2,<-h,q.ok _ _ hy]
   . simp at h
 . simp at h⟩
def Sub (a b:AV):Prop:=∀ (w:World) (A:Nat->Prop) (M:Id->Option MB) (v:Value),Rel w A M v a->Rel w A M v b
def SubL (aS bs:List AV):Prop:=aS.length=bs.length/\∀ i,i<aS.length->Sub (aS.getD i .top) (bs.getD i .top)
theorem Sub.refl (a:AV):Sub a a:=fun _ _ _ _ h=>h
theorem Sub.of_eq {a b:AV} (h:a=b):Sub a b:=h▸Sub.refl a
theorem xBG (sz:Nat):Sub .nils (.list sz []):=fun w A M v h=>by
 cases h;exact .list0 _ _ _
theorem xCY {aS bs:List AV} (h:SubL aS bs):Sub (.agg aS) (.agg bs):=fun w A M v hr=>by
 obtain ⟨vs,rfl,h1,h2⟩:=hr.agg_inv;exact .agg vs bs (h1.trans h.1) fun i hi=>h.2 i (h.1.symm▸hi) w A M _ (h2 i (h.1.symm▸hi))
theorem xAm {w:World} {A:Nat->Prop} {M:Id->Option MB} {vs:List Value} {aS bs:List AV} (h:SubL aS bs) (hr:RC w A M vs aS):RC w A M vs bs :=
 ⟨hr.1.trans h.1,fun i hi=>h.2 i (h.1.symm▸hi) w A M _ (hr.2 i (h.1.symm▸hi))⟩
structure SPat (β:Type) where
 enc:β->AV
 dec:AV->Option β
 ok:∀ a b,dec a=some b->Sub a (enc b)
structure SPatL (β:Type) where
 enc:β->List AV
 dec:List AV->Option β
 ok:∀ a b,dec a=some b->SubL a (enc b)
def sEq (p:Pat AV β):SPat β:=⟨p.enc,p.dec,fun a b h=>Sub.of_eq (p.ok a b h)⟩
def xGz (sz:Nat) (q:Pat (List AV) β):SPat β:=⟨fun b=>.list sz (q.enc b),fun v=>match v with
 | .nils=>q.dec []
 | .list z xs=>match Nat.beq z sz with
  | true=>q.dec xs
  | false=>none
 | _=>none,fun v n h=>by
 split at h
 . rw [<-q.ok _ _ h];exact xBG sz
 . split at h
   . rename_i hz;rw [zg hz,q.ok _ _ h];exact Sub.refl _
   . simp at h
 . simp at h⟩
def xGA (q:SPatL β):SPat β:=⟨fun b=>.agg (q.enc b),fun v=>match v with
 | .agg cs=>q.dec cs
 | _=>none,fun v n h=>by
 split at h
 . exact xCY (q.ok _ _ h)
 . simp at h⟩
def xGl:SPatL Unit:=⟨fun _=>[],fun v=>match v with
 | []=>some ()
 | _=>none,fun v n h=>by
 split at h
 . exact ⟨rfl,fun i hi=>by simp at hi⟩
 . simp at h⟩
def xGj (p:SPat β) (q:SPatL γ):SPatL (β×γ):=⟨fun b=>p.enc b.1::q.enc b.2,fun v=>match v with
 | x::t=>match p.dec x with
  | some b=>match q.dec t with
   | some c=>some (b,c)
   | none=>none
  | none=>none
 | _=>none,fun v n h=>by
 split at h
 . split at h
   . rename_i hp;split at h
     . rename_i hq;cases h;obtain ⟨h1,h2⟩:=q.ok _ _ hq;refine ⟨by simp [h1],fun i hi=>?_⟩
       cases i with
       | zero=>exact p.ok _ _ hp
       | succ i=>exact h2 i (by simpa using hi)
     . simp at h
   . simp at h
 . simp at h⟩
def ocOf (pv:SPatL β) (g:β->Bool×AV):List AV->Option (Bool×AV):=fun xs=>match pv.dec xs with
 | some b=>some (g b)
 | none=>none
def omOf (pv:SPatL β) (pb:Pat (List Box) γ) (g:β->γ->Bool×AV×List Box):List AV->List Box->Option (Bool×AV×List Box):=fun xs H=>match pv.dec xs with
 | some b=>match pb.dec H with
  | some c=>some (g b c)
  | none=>none
 | none=>none
def lpOf (live liveO:List Nat) (conv:List (Nat×Nat×TypeId)) (pv:Pat (List AV) β) (pb:Pat (List Box) γ) (g:β->γ->Bool×LR):Lp:=⟨live,liveO,conv,fun xs H=>match pv.dec xs with
 | some b=>match pb.dec H with
  | some c=>some (g b c)
  | none=>none
 | none=>none⟩
section
variable {P : Program} {Inv : IV}
theorem xkL {n:FuncId} {pv:SPatL β} {g:β->Bool×AV} (h:∀ b r,g b=(true,r)->Good P Inv n (pv.enc b) r):OcOk P Inv n (ocOf pv g):=fun xs r e=>by
 unfold ocOf at e;split at e
 . rename_i b hb;simp only [z6] at e;obtain ⟨h1,h2⟩:=h b r e;exact ⟨h1,fun w A vs hi ha hr=>h2 w A vs hi ha (xAm (pv.ok _ _ hb) hr)⟩
 . simp at e
theorem xkM {n:FuncId} {pv:SPatL β} {pb:Pat (List Box) γ} {g:β->γ->Bool×AV×List Box} (h:∀ b c r H',g b c=(true,r,H')->GoodM P Inv n (pv.enc b) (pb.enc c) r H'):OmOk P Inv n (omOf pv pb g):=fun xs H r H' e=>by
 unfold omOf at e;split at e
 . rename_i b hb;split at e
   . rename_i c hc;simp only [z6] at e;rw [pb.ok _ _ hc];obtain ⟨h1,h2⟩:=h b c r H' e;exact ⟨h1,fun w0 w A M vs hi q hR hr=>h2 w0 w A M vs hi q hR (xAm (pv.ok _ _ hb) hr)⟩
   . simp at e
 . simp at e
theorem xDQ {nt:Nat} {l:Code} {live liveO:List Nat} {conv:List (Nat×Nat×TypeId)} {pv:Pat (List AV) β} {pb:Pat (List Box) γ} {g:β->γ->Bool×LR}
  (h:∀ b c r,g b c=(true,r)->DoesL P Inv l (fun e1 s1=>e1=r.eval.1/\s1=⟨mkTs nt (liveO.zip r.eval.2.1),r.eval.2.2⟩) ⟨mkTs nt (live.zip (pv.enc b)),pb.enc c⟩):LoopOk P Inv nt l (lpOf live liveO conv pv pb g):=fun vals H r e=>by
 unfold lpOf at e;dsimp only at e;split at e
 . rename_i b hb;split at e
   . rename_i c hc;simp only [z6] at e;rw [pv.ok _ _ hb,pb.ok _ _ hc];exact h b c r e
   . simp at e
 . simp at e
end
theorem xcl {x:Option α} {d:α} (h:x.isSome=true):x=some (x.getD d):=by
 cases x with
 | none=>simp at h
 | some y=>rfl
end Go.Sim
end
noncomputable section
namespace Go.Sim.M
open Go.RowKit Go.Proofs
def E0:Env:=(((Env.none.with 117 xjJ).with 124 xmD).withM 142 xoA).withM 126 xkg
theorem xBL:xFB Tryz.prog xGh E0:=(((xyH.with xqx).with xti).withM xvV).withM xrt
end Go.Sim.M
end
noncomputable section
namespace Go.Sim
open Go.RowKit
def EncS {α:Type} (f:α->AV) (a:Option α) (b:Option AV):Prop:=∀ r,a=some r->∃ x,b=some x/\Sub x (f r)
theorem EncS.none {α:Type} {f:α->AV} {b:Option AV}:EncS f .none b:=fun r h=>by simp at h
theorem EncS.some {α:Type} {f:α->AV} {a:α} {b:AV} (h:Sub b (f a)):EncS f (Option.some a) (Option.some b):=fun r e=>by cases e;exact ⟨b,rfl,h⟩
theorem EncS.br {α:Type} {f:α->AV} {t:Bool} {a a':Option α} {b b':Option AV} (h1:EncS f a b) (h2:EncS f a' b'):EncS f (Sim.br t a a') (Sim.br t b b'):=by cases t<;>assumption
theorem Good.sub {P:Program} {Inv:IV} {f:FuncId} {args:List AV} {r r':AV} (h:Good P Inv f args r) (hs:Sub r r'):Good P Inv f args r' :=
 ⟨h.1,fun w A vs hI hA q=>(h.2 w A vs hI hA q).mono fun e w' ⟨v,he,hb,hr⟩=>⟨v,he,hb,hs w' A xFO v hr⟩⟩
theorem GoodM.bump1 {P:Program} {Inv:IV} {f:FuncId} {args:List AV} {H:List Box} {v v' k sz:Nat} {ty:TypeId} {xs:List AV} {frz pm:Bool} (Q:isC ty=false) (hv:v<v')
  (h:GoodM P Inv f args H (.osl (.b 0) v 0 k) [⟨v,sz,ty,xs,frz,pm⟩]):GoodM P Inv f args H (.osl (.b 0) v' 0 k) [⟨v',sz,ty,xs,frz,pm⟩]:=by
 refine ⟨h.1,fun w0 w A M vs hI hB hR Y=>(h.2 w0 w A M vs hI hB hR Y).mono ?_⟩
 rintro e w' ⟨u,A',M',rfl,h1,h2,h3,h4,h5⟩;obtain ⟨m,g1,g2,g3,g4⟩:=Rel.osl_inv h5;obtain ⟨bx,q1,q2⟩:=h4.box _ m g1;have:bx=⟨v,sz,ty,xs,frz,pm⟩:=by
  have:=q1;rw [xbG] at this;simpa using this.symm
 subst this;have U:v=m.ver:=q2.ver;have O:MExt M' (MSet M' (.b 0) ⟨m.b,v',m.sz,m.cap,m.ty⟩):=xmb g1 (.inr (by simp only;omega))
 have J:∀ id m1,MSet M' (.b 0) ⟨m.b,v',m.sz,m.cap,m.ty⟩ id=some m1->∃ m0,M' id=some m0/\m1.b=m0.b/\m1.cap=m0.cap:=fun id m1 q=>by
  by_cases hi:id=.b 0
  . subst hi;simp [MSet] at q;subst q;exact ⟨m,g1,rfl,rfl⟩
  . exact ⟨m1,by simpa [MSet,hi] using q,rfl,rfl⟩
 have hR':HR w' A' (MSet M' (.b 0) ⟨m.b,v',m.sz,m.cap,m.ty⟩) w0.heap.size [⟨v',sz,ty,xs,frz,pm⟩]:=by
  refine ⟨fun id m1 q=>?_,fun id id' m1 m2 k1 k2 c1 c2 he=>?_,h4.lt⟩
  . by_cases hi:id=.b 0
    . subst hi;have:m1=⟨m.b,v',m.sz,m.cap,m.ty⟩:=by simp [MSet] at q;exact q.symm
      subst this;have q3:=q2.mono (w':=w') (fun _=>rfl) (fun _ _ _=>rfl) (zd _) (fun _ _ h=>h) q2.guard O
      exact ⟨⟨v',sz,ty,xs,frz,pm⟩,rfl,rfl,q3.sz,q3.ty,q3.capm,q3.fits,q3.ok,q3.low,q3.lt,q3.cells,q3.guard⟩
    . have V:M' id=some m1:=by simpa [MSet,hi] using q
      obtain ⟨bx,k1,k2⟩:=h4.box id m1 V;have k3:getB [⟨v',sz,ty,xs,frz,pm⟩] id=some bx:=by
       rw [<-k1];exact xck (H:=[⟨v,sz,ty,xs,frz,pm⟩]) (n:=0) (bx:=⟨v,sz,ty,xs,frz,pm⟩) (bx':=⟨v',sz,ty,xs,frz,pm⟩) rfl Q Q hi
      exact ⟨bx,k3,k2.mono (fun _=>rfl) (fun _ _ _=>rfl) (zd _) (fun _ _ h=>h) k2.guard O⟩
  . obtain ⟨n1,a1,a2,a3⟩:=J id m1 k1;obtain ⟨n2,b1,b2,b3⟩:=J id' m2 k2;exact h4.inj id id' n1 n2 a1 b1 (by omega) (by omega) (by rw [<-a2,<-b2,he])
 refine ⟨u,A',MSet M' (.b 0) ⟨m.b,v',m.sz,m.cap,m.ty⟩,rfl,h1,h2,h3.step ⟨zd _,fun _ _ _=>rfl,fun _ _ h=>h,fun _ _ h _=>h,O,⟨fun _ _ _=>rfl,fun id m1 q h0=>?_⟩⟩,hR',?_⟩
 . obtain ⟨n1,a1,a2,a3⟩:=J id m1 q;exact .inl ⟨id,n1,a1,by omega,a2⟩
 . exact .osl u (.b 0) v' 0 k ⟨m.b,v',m.sz,m.cap,m.ty⟩ (by simp [MSet]) (zd _) g3 fun _=>g4 U
theorem GoodM.weaken {P:Program} {Inv:IV} {f:FuncId} {args:List AV} {H H1 H2:List Box} {r r2:AV} (h:GoodM P Inv f args H r H1)
  (hw:∀ w A M B v,HR w A M B H1->Rel w A M v r->∃ M',HR w A M' B H2/\Mv w A M w A M'/\Rel w A M' v r2):GoodM P Inv f args H r2 H2:=by
 refine ⟨h.1,fun w0 w A M vs hI hB hR q=>(h.2 w0 w A M vs hI hB hR q).mono ?_⟩
 rintro e w' ⟨u,A',M',rfl,h1,h2,h3,h4,h5⟩;obtain ⟨M2,g1,g2,g3⟩:=hw w' A' M' _ u h4 h5;exact ⟨u,A',M2,rfl,h1,h2,h3.step g2,g1,g3⟩
theorem xzK {w:World} {A:Nat->Prop} {M:Id->Option MB} {B:Nat} {H:List Box} (hR:HR w A M B H) {n:Nat} {m:MB} {bx:Box} (hm:M (.b n)=some m) (hb:H[n]?=some bx) (U:isC bx.ty=false) (v:Nat) (hv:m.ver<v) (sz:Nat) (ty:TypeId) (O:isC ty=false) :
  HR w A (MSet M (.b n) ⟨m.b,v,sz,0,ty⟩) B (H.set n ⟨v,sz,ty,[],false,true⟩)/\Mv w A M w A (MSet M (.b n) ⟨m.b,v,sz,0,ty⟩):=by
 have J:MExt M (MSet M (.b n) ⟨m.b,v,sz,0,ty⟩):=xmb hm (.inr hv);have hc:∀ {p:Prop},0<(0:Nat)->p:=fun h=>absurd h (by omega)
 have q:∀ i m1,MSet M (.b n) ⟨m.b,v,sz,0,ty⟩ i=some m1->0<m1.cap->i≠.b n/\M i=some m1:=fun i m1 h1 h0=>by
  by_cases hi:i=.b n
  . subst hi;simp [MSet] at h1;subst h1;exact absurd h0 (by simp)
  . exact ⟨hi,by simpa [MSet,hi] using h1⟩
 refine ⟨⟨fun i m1 h1=>?_,fun i i' m1 m2 h1 h2 c1 c2 he=>hR.inj i i' m1 m2 (q i m1 h1 c1).2 (q i' m2 h2 c2).2 c1 c2 he,hR.lt⟩,⟨zd _,fun _ _ _=>rfl,fun _ _ h=>h,fun _ _ h _=>h,J,⟨fun _ _ _=>rfl,fun i m1 h1 h0=>.inl ⟨i,m1,(q i m1 h1 h0).2,h0,rfl⟩⟩⟩⟩
 by_cases hi:i=.b n
 . subst hi;have:m1=⟨m.b,v,sz,0,ty⟩:=by simp [MSet] at h1;exact h1.symm
   subst this;exact ⟨⟨v,sz,ty,[],false,true⟩,by rw [xbG,zL (xcK hb)],rfl,rfl,xbb O,zQ _,zQ _,fun x hx=>by simp at hx,hc,hc,hc,hc⟩
 . have Q:M i=some m1:=by simpa [MSet,hi] using h1
   obtain ⟨V,g1,g2⟩:=hR.box i m1 Q;exact ⟨V,by rw [xck hb U O hi];exact g1,g2.mono (fun _=>rfl) (fun _ _ _=>rfl) (zd _) (fun _ _ h=>h) g2.guard J⟩
theorem GoodM.drop0 {P:Program} {Inv:IV} {f:FuncId} {args:List AV} {H:List Box} {v v' w k sz Q:Nat} {ty J:TypeId} {xs ys:List AV} {frz pm q U:Bool} (O:isC ty=false) (hv:v<v')
  (h:GoodM P Inv f args H (.osl (.b 1) w 0 k) [⟨v,sz,ty,xs,frz,pm⟩,⟨w,Q,J,ys,q,U⟩]):GoodM P Inv f args H (.osl (.b 1) w 0 k) [⟨v',sz,ty,[],false,true⟩,⟨w,Q,J,ys,q,U⟩] :=
 h.weaken fun w1 A M B u hR hr=>by
  cases hm:M (.b 0) with
  | some m =>
   obtain ⟨bx,q1,q2⟩:=hR.box _ m hm;have hb:[(⟨v,sz,ty,xs,frz,pm⟩:Box),⟨w,Q,J,ys,q,U⟩][0]?=some ⟨v,sz,ty,xs,frz,pm⟩:=rfl;rw [xbG,hb] at q1;cases q1;obtain ⟨g1,g2⟩:=xzK hR hm hb O v' (by have:v=m.ver:=q2.ver;omega) sz ty O
   exact ⟨_,g1,g2,g2.rel hr⟩
  | none =>
   refine ⟨M,⟨fun i m V=>?_,hR.inj,hR.lt⟩,Mv.refl,hr⟩
   obtain ⟨bx,q1,q2⟩:=hR.box i m V;refine ⟨bx,?_,q2⟩;by_cases hi:i=.b 0
   . subst hi;rw [hm] at V;cases V
   . rw [<-q1];exact xck (H:=[⟨v,sz,ty,xs,frz,pm⟩,⟨w,Q,J,ys,q,U⟩]) (n:=0) (bx:=⟨v,sz,ty,xs,frz,pm⟩) (bx':=⟨v',sz,ty,[],false,true⟩) rfl O O hi
theorem GoodM.move0 {P:Program} {Inv:IV} {f:FuncId} {args:List AV} {H:List Box} {v v' w k sz:Nat} {ty:TypeId} {xs:List AV} {frz:Bool} (q:isC ty=false) (hv:v<v')
  (h:GoodM P Inv f args H (.osl (.b 0) v 0 k) [⟨v,sz,ty,xs,frz,true⟩]):GoodM P Inv f args H (.osl (.b 1) w 0 k) [⟨v',sz,ty,[],false,true⟩,⟨w,sz,ty,xs,frz,true⟩] :=
 h.weaken fun w1 A M B u hR hr=>by
  obtain ⟨m,g1,g2,g3,g4⟩:=Rel.osl_inv hr;obtain ⟨bx,q1,q2⟩:=hR.box _ m g1;have:bx=⟨v,sz,ty,xs,frz,true⟩:=by
   have:=q1;rw [xbG] at this;simpa using this.symm
  subst this;have Q:v=m.ver:=q2.ver;have V:M (.b 1)=none:=by
   cases h1:M (.b 1) with
   | none=>rfl
   | some m1=>obtain ⟨b1,k1,_⟩:=hR.box _ m1 h1;rw [xbG] at k1;simp at k1
  have U:∀ n i j m1,M (.r n i j)=some m1->n=0:=fun n i j m1 h1=>by
   obtain ⟨b1,k1,_⟩:=hR.box _ m1 h1;obtain ⟨b0,k2,_⟩:=xk8 k1;have:=xcK k2;simp at this;omega
  let M2:Id->Option MB:=MSet (MSet M (.b 0) ⟨m.b,v',sz,0,ty⟩) (.b 1) ⟨m.b,w,m.sz,m.cap,m.ty⟩;have e1:M2 (.b 1)=some ⟨m.b,w,m.sz,m.cap,m.ty⟩:=by simp [M2,MSet]
  have e0:M2 (.b 0)=some ⟨m.b,v',sz,0,ty⟩:=by simp [M2,MSet]
  have eo:∀ i,i≠.b 0->i≠.b 1->M2 i=M i:=fun i h0 h1=>by simp [M2,MSet,h0,h1]
  have J:MExt M M2:=fun i m1 h1=>by
   by_cases h0:i=.b 0
   . subst h0;rw [g1] at h1;cases h1;exact ⟨_,e0,.inr (by simp only;omega)⟩
   . by_cases h2:i=.b 1
     . subst h2;rw [V] at h1;cases h1
     . exact ⟨m1,by rw [eo i h0 h2];exact h1,.inl rfl⟩
  have O:∀ i m1,M2 i=some m1->0<m1.cap->i≠.b 0/\∃ i0 m0,M i0=some m0/\m0.b=m1.b/\m0.cap=m1.cap/\(i=.b 1->i0=.b 0)/\(i≠.b 1->i0=i):=fun i m1 h1 h0=>by
   by_cases hi:i=.b 0
   . subst hi;rw [e0] at h1;cases h1;exact absurd h0 (by simp)
   . refine ⟨hi,?_⟩;by_cases h2:i=.b 1
     . subst h2;rw [e1] at h1;cases h1;exact ⟨.b 0,m,g1,rfl,rfl,fun _=>rfl,fun h=>absurd rfl h⟩
     . rw [eo i hi h2] at h1;exact ⟨i,m1,h1,rfl,rfl,fun h=>absurd h h2,fun _=>rfl⟩
  refine ⟨M2,⟨fun i m1 h1=>?_,fun i i' m1 m2 h1 h2 c1 c2 he=>?_,hR.lt⟩,⟨zd _,fun _ _ _=>rfl,fun _ _ h=>h,fun _ _ h _=>h,J,⟨fun _ _ _=>rfl,fun i m1 h1 h0=>?_⟩⟩,?_⟩
  . by_cases hi:i=.b 0
    . subst hi;rw [e0] at h1;cases h1;have hc:∀ {p:Prop},0<(0:Nat)->p:=fun h=>absurd h (by omega)
      exact ⟨⟨v',sz,ty,[],false,true⟩,rfl,rfl,rfl,xbb q,zQ _,zQ _,fun x hx=>by simp at hx,hc,hc,hc,hc⟩
    . by_cases h2:i=.b 1
      . subst h2;rw [e1] at h1;cases h1;have q3:=q2.mono (w':=w1) (A':=A) (fun _=>rfl) (fun _ _ _=>rfl) (zd _) (fun _ _ h=>h) q2.guard J
        refine ⟨⟨w,sz,ty,xs,frz,true⟩,rfl,rfl,q3.sz,q3.ty,q3.capm,q3.fits,q3.ok,q3.low,q3.lt,fun h0=>?_,q3.guard⟩
        obtain ⟨c,c1,c2,c3⟩:=q3.cells h0;refine ⟨c,c1,c2,fun i j hi hj=>?_⟩
        have:=c3 i j hi hj;rw [xaS q,xbk q] at this;rw [xaS q,xbk (bx:=⟨w,sz,ty,xs,frz,true⟩) q];exact this
      . rw [eo i hi h2] at h1;obtain ⟨b1,k1,k2⟩:=hR.box i m1 h1;cases i with
        | b n =>
         rw [xbG] at k1;have:=xcK k1;have:n=0:=by simp at this;omega
         subst this;exact absurd rfl hi
        | r n a b =>
         have hn:=U n a b m1 h1;subst hn;rw [xdP (H:=[⟨v,sz,ty,xs,frz,true⟩]) (by rfl) q] at k1
         cases k1;exact ⟨tombB,xdP (by rfl) q,k2.mono (fun _=>rfl) (fun _ _ _=>rfl) (zd _) (fun _ _ h=>h) k2.guard J⟩
  . obtain ⟨a1,i0,n0,a2,a3,a4,a5,a6⟩:=O i m1 h1 c1;obtain ⟨b1,j0,n1,b2,b3,b4,b5,b6⟩:=O i' m2 h2 c2;have:=hR.inj i0 j0 n0 n1 a2 b2 (by omega) (by omega) (by rw [a3,b3,he])
    by_cases hi:i=.b 1
    . by_cases hj:i'=.b 1
      . rw [hi,hj]
      . rw [a5 hi,b6 hj] at this;exact absurd this.symm b1
    . by_cases hj:i'=.b 1
      . rw [a6 hi,b5 hj] at this;exact absurd this a1
      . rw [a6 hi,b6 hj] at this;exact this
  . obtain ⟨a1,i0,n0,a2,a3,a4,_,_⟩:=O i m1 h1 h0;exact .inl ⟨i0,n0,a2,by omega,a3.symm⟩
  . exact .osl u (.b 1) w 0 k ⟨m.b,w,m.sz,m.cap,m.ty⟩ e1 (zd _) g3 fun _=>g4 Q
end Go.Sim
end
noncomputable section
namespace Go.Sim
open Go.RowKit Go.Proofs
noncomputable abbrev P0:Program:=Tryz.prog
section
variable {α β γ ρ σ : Type}
def qI:Pat AV Int:=pInt .i64
def qL (k:Nat):Pat AV (List AV):=xGB k xGm
def qB {β:Type} (v s t:Nat) (q:Pat (List AV) β):Pat Box β:=xGy v s t false true q
def bF (v s t:Nat) (x:List AV):Box:=⟨v,s,t,x,false,true⟩
def uI:SPat Int:=sEq qI
def uL (k:Nat):SPat (List AV):=xGz k xGm
def q1 {α α0:Type} (a:Pat α α0):Pat (List α) (α0×Unit):=xGi a (xGk)
def q2 {α α0 α1:Type} (a:Pat α α0) (b:Pat α α1):Pat (List α) (α0×α1×Unit):=xGi a (xGi b (xGk))
def q3 {α α0 α1 α2:Type} (a:Pat α α0) (b:Pat α α1) (c:Pat α α2):Pat (List α) (α0×α1×α2×Unit):=xGi a (xGi b (xGi c (xGk)))
def q4 {α α0 α1 α2 α3:Type} (a:Pat α α0) (b:Pat α α1) (c:Pat α α2) (d:Pat α α3):Pat (List α) (α0×α1×α2×α3×Unit):=xGi a (xGi b (xGi c (xGi d (xGk))))
def q5 {α α0 α1 α2 α3 α4:Type} (a:Pat α α0) (b:Pat α α1) (c:Pat α α2) (d:Pat α α3) (e:Pat α α4):Pat (List α) (α0×α1×α2×α3×α4×Unit):=xGi a (xGi b (xGi c (xGi d (xGi e (xGk)))))
def q6 {α α0 α1 α2 α3 α4 α5:Type} (a:Pat α α0) (b:Pat α α1) (c:Pat α α2) (d:Pat α α3) (e:Pat α α4) (f:Pat α α5):Pat (List α) (α0×α1×α2×α3×α4×α5×Unit):=xGi a (xGi b (xGi c (xGi d (xGi e (xGi f (xGk))))))
def q7 {α α0 α1 α2 α3 α4 α5 α6:Type} (a:Pat α α0) (b:Pat α α1) (c:Pat α α2) (d:Pat α α3) (e:Pat α α4) (f:Pat α α5) (g:Pat α α6):Pat (List α) (α0×α1×α2×α3×α4×α5×α6×Unit):=xGi a (xGi b (xGi c (xGi d (xGi e (xGi f (xGi g (xGk)))))))
def q8 {α α0 α1 α2 α3 α4 α5 α6 α7:Type} (a:Pat α α0) (b:Pat α α1) (c:Pat α α2) (d:Pat α α3) (e:Pat α α4) (f:Pat α α5) (g:Pat α α6) (h:Pat α α7):Pat (List α) (α0×α1×α2×α3×α4×α5×α6×α7×Unit):=xGi a (xGi b (xGi c (xGi d (xGi e (xGi f (xGi g (xGi h (xGk))))))))
def q9 {α α0 α1 α2 α3 α4 α5 α6 α7 α8:Type} (a:Pat α α0) (b:Pat α α1) (c:Pat α α2) (d:Pat α α3) (e:Pat α α4) (f:Pat α α5) (g:Pat α α6) (h:Pat α α7) (i:Pat α α8):Pat (List α) (α0×α1×α2×α3×α4×α5×α6×α7×α8×Unit):=xGi a (xGi b (xGi c (xGi d (xGi e (xGi f (xGi g (xGi h (xGi i (xGk)))))))))
def q10 {α α0 α1 α2 α3 α4 α5 α6 α7 α8 α9:Type} (a:Pat α α0) (b:Pat α α1) (c:Pat α α2) (d:Pat α α3) (e:Pat α α4) (f:Pat α α5) (g:Pat α α6) (h:Pat α α7) (i:Pat α α8) (j:Pat α α9):Pat (List α) (α0×α1×α2×α3×α4×α5×α6×α7×α8×α9×Unit):=xGi a (xGi b (xGi c (xGi d (xGi e (xGi f (xGi g (xGi h (xGi i (xGi j (xGk))))))))))
def u1 {α0:Type} (a:SPat α0):SPatL (α0×Unit):=xGj a (xGl)
def u2 {α0 α1:Type} (a:SPat α0) (b:SPat α1):SPatL (α0×α1×Unit):=xGj a (xGj b (xGl))
def u3 {α0 α1 α2:Type} (a:SPat α0) (b:SPat α1) (c:SPat α2):SPatL (α0×α1×α2×Unit):=xGj a (xGj b (xGj c (xGl)))
def u4 {α0 α1 α2 α3:Type} (a:SPat α0) (b:SPat α1) (c:SPat α2) (d:SPat α3):SPatL (α0×α1×α2×α3×Unit):=xGj a (xGj b (xGj c (xGj d (xGl))))
def u5 {α0 α1 α2 α3 α4:Type} (a:SPat α0) (b:SPat α1) (c:SPat α2) (d:SPat α3) (e:SPat α4):SPatL (α0×α1×α2×α3×α4×Unit):=xGj a (xGj b (xGj c (xGj d (xGj e (xGl)))))
def u6 {α0 α1 α2 α3 α4 α5:Type} (a:SPat α0) (b:SPat α1) (c:SPat α2) (d:SPat α3) (e:SPat α4) (f:SPat α5):SPatL (α0×α1×α2×α3×α4×α5×Unit):=xGj a (xGj b (xGj c (xGj d (xGj e (xGj f (xGl))))))
def u7 {α0 α1 α2 α3 α4 α5 α6:Type} (a:SPat α0) (b:SPat α1) (c:SPat α2) (d:SPat α3) (e:SPat α4) (f:SPat α5) (g:SPat α6):SPatL (α0×α1×α2×α3×α4×α5×α6×Unit):=xGj a (xGj b (xGj c (xGj d (xGj e (xGj f (xGj g (xGl)))))))
def LR.okB:LR->Bool
 | .leaf e _ _=>match e with|.normal=>false|_=>true
 | .node _ a b=>a.okB&&b.okB
theorem LR.okB_ne:∀ {r:LR},r.okB=true->r.eval.1≠.normal
 | .leaf e _ _,h=>fun c=>by
  have c:e=.normal:=c;subst c;simp [LR.okB] at h
 | .node true a b,h=>LR.okB_ne (r:=a) (by simp only [LR.okB,zf] at h;exact h.1)
 | .node false a b,h=>LR.okB_ne (r:=b) (by simp only [LR.okB,zf] at h;exact h.2)
abbrev StT (σ ρ:Type):=σ->Option (σ⊕ρ)
def inL {σ ρ:Type} (s:σ):Option (σ⊕ρ):=some (.inl s)
def inR {σ ρ:Type} (p:ρ):Option (σ⊕ρ):=some (.inr p)
def ixI (l:List AV) (i:Int):Bool:=decide ((0:Int)<=i)&&decide (i<(↑l.length:Int))
def ixS (l:List AV) (i:Int) (s:Sh) (k:Nat):Bool:=decide (i.toNat<l.length)&&xFz s ((l.getD i.toNat .top).cells.getD k .top)
def ixT (l:List AV) (i:Int) (n:Nat) (ss:List Sh) (k:Nat):Bool:=decide (i.toNat<l.length)&&((l.getD i.toNat .top).cells.length==n&&xFG ss (l.getD i.toNat .top).cells k)
def gC (l:List AV) (i:Int) (k:Nat):AV:=(l.getD i.toNat .top).cells.getD k .top
def rmB (n:Nat) (l:List AV) (c z:Nat):Bool:=n==l.length&&(decide ((n+c)*z<=140737488355328)&&decide (n+c<=4611686018427387904))
abbrev RT:=Exit×List AV×List Box
abbrev HL (E:Env) (nt pin:Nat) (ls:List TypeId) (lp:List (Nat×Lp)) (fn:Func):Prop:=LoOk Tryz.prog (xGh.at pin) (E.fn nt pin (lsOf ls) (xFX lp)) (fn.body.getD .skip)
abbrev FX (E:Env) (nt pin:Nat) (ls:List TypeId) (lp:List (Nat×Lp)) (fn:Func) (pv:SPatL β) (t:β->(T:Type)->T->(ρ->T)->T) (e:β->ρ->AV):Prop:=∀ b,XF Tryz.prog (E.fn nt pin (lsOf ls) (xFX lp)) fn (fn.body.getD .skip) (pv.enc b)=t b (Option AV) none fun p=>some (e b p)
abbrev FE (t:β->(T:Type)->T->(ρ->T)->T) (e:β->ρ->AV):Prop:=∀ b,Enc (e b) (t b (Option ρ) none some) (t b (Option AV) none fun p=>some (e b p))
abbrev MX (E:Env) (nt pin:Nat) (ls:List TypeId) (lp:List (Nat×Lp)) (fn:Func) (pv:SPatL β) (pb:Pat (List Box) γ) (t:β->γ->(T:Type)->T->(ρ->T)->T) (e:β->γ->ρ->AV×List Box):Prop:=∀ b c,XFM Tryz.prog (E.fn nt pin (lsOf ls) (xFX lp)) fn (fn.body.getD .skip) (pv.enc b) (pb.enc c)=t b c (Option (AV×List Box)) none fun p=>some (e b c p)
abbrev ME (t:β->γ->(T:Type)->T->(ρ->T)->T) (e:β->γ->ρ->AV×List Box):Prop:=∀ b c,Enc (e b c) (t b c (Option ρ) none some) (t b c (Option (AV×List Box)) none fun p=>some (e b c p))
abbrev TX (E:Env) (nt pin:Nat) (ls:List TypeId) (lp:List (Nat×Lp)) (fn:Func) (pv:SPatL β) (t:β->(ρ->Option AV)->Option AV) (e:β->ρ->AV):Prop:=∀ b,XF Tryz.prog (E.fn nt pin (lsOf ls) (xFX lp)) fn (fn.body.getD .skip) (pv.enc b)=t b fun p=>some (e b p)
noncomputable abbrev LX (E:Env) (nt pin:Nat) (ls:List TypeId) (lp:List (Nat×Lp)) (l:Code) (lv lo:List Nat) (cv:List (Nat×Nat×TypeId)) (pv:Pat (List AV) β) (pb:Pat (List Box) γ) (F:β->γ->(σ->Option (σ⊕ρ))×σ×(ρ->LR)) (G:β->γ->σ->(β×γ)×((σ->Option RT)->(ρ->Option RT)->Option RT)):Prop:=∀ b c s,XR Tryz.prog (E.fn nt pin (lsOf ls) (xFX lp)) lv lo cv l (pv.enc (G b c s).1.1) (pb.enc (G b c s).1.2)=(G b c s).2 (fun s=>some (encR (fun s=>(pv.enc (G b c s).1.1,pb.enc (G b c s).1.2)) (F b c).2.2 (.inl s))) fun p=>some (encR (fun s=>(pv.enc (G b c s).1.1,pb.enc (G b c s).1.2)) (F b c).2.2 (.inr p))
abbrev LE (pv:Pat (List AV) β) (pb:Pat (List Box) γ) (F:β->γ->(σ->Option (σ⊕ρ))×σ×(ρ->LR)) (G:β->γ->σ->(β×γ)×((σ->Option RT)->(ρ->Option RT)->Option RT)):Prop:=∀ b c s,Enc (encR (fun s=>(pv.enc (G b c s).1.1,pb.enc (G b c s).1.2)) (F b c).2.2) ((F b c).1 s) ((G b c s).2 (fun s=>some (encR (fun s=>(pv.enc (G b c s).1.1,pb.enc (G b c s).1.2)) (F b c).2.2 (.inl s))) fun p=>some (encR (fun s=>(pv.enc (G b c s).1.1,pb.enc (G b c s).1.2)) (F b c).2.2 (.inr p)))
theorem eV {f:α->β} {a:Option α} {b:Option β} (Y:Option β) (h:b=Y) (he:Enc f a Y):Enc f a b:=h▸he
abbrev LA:=List AV
theorem lkN {P:Program} {Inv:IV} {E:Env}:∀ c,c∈([]:List Code)->∀ lp,E.lp (xFP c)=some lp->LoopOk P Inv E.nt c lp:=fun c h=>by simp at h
theorem lkC {P:Program} {Inv:IV} {E:Env} {l:Code} {ls:List Code} {lp0:Lp} (hok:LoopOk P Inv E.nt l lp0) (ht:∀ c,c∈ls->∀ lp,E.lp (xFP c)=some lp->LoopOk P Inv E.nt c lp) (h:E.lp (xFP l)=some lp0:=by kernel_rfl):∀ c,c∈l::ls->∀ lp,E.lp (xFP c)=some lp->LoopOk P Inv E.nt c lp:=fun c hc lp hs=>by
 rcases zC.1 hc with rfl|hc
 . rw [h,z6] at hs;subst hs;exact hok
 . exact ht c hc lp hs
theorem eN {f:α->β} {b:Option β}:Enc f none b:=Enc.none
theorem eS {f:α->β} {a:α} {b:β} (h:b=f a):Enc f (some a) (some b):=Enc.some h
theorem eB {f:α->β} {t:Bool} {a a':Option α} {b b':Option β} (h1:Enc f a b) (h2:Enc f a' b'):Enc f (br t a a') (br t b b'):=Enc.br h1 h2
def fnO (pv:SPatL β) (t:β->(T:Type)->T->(ρ->T)->T) (e:β->ρ->AV) (d:ρ):List AV->Option (Bool×AV):=ocOf pv fun b=>((t b (Option ρ) none some).isSome,e b ((t b (Option ρ) none some).getD d))
def fmO (pv:SPatL β) (pb:Pat (List Box) γ) (t:β->γ->(T:Type)->T->(ρ->T)->T) (e:β->γ->ρ->AV×List Box) (d:ρ):List AV->List Box->Option (Bool×AV×List Box):=omOf pv pb fun b c=>((t b c (Option ρ) none some).isSome,e b c ((t b c (Option ρ) none some).getD d))
noncomputable def lpO (lv lo:List Nat) (cv:List (Nat×Nat×TypeId)) (pv:Pat (List AV) β) (pb:Pat (List Box) γ) (F:β->γ->(σ->Option (σ⊕ρ))×σ×(ρ->LR)) (d:ρ):Lp :=
 lpOf lv lo cv pv pb fun b c=>((Iter (F b c).1 (F b c).2.1).isSome,(F b c).2.2 ((Iter (F b c).1 (F b c).2.1).getD d))
section
variable {E : Env}
def Tot {α:Type} (e:ρ->α) (a:ρ) (x:Option α):Prop:=x=some (e a)
theorem eT {α:Type} {e:ρ->α} {t:Bool} {a b:ρ} {x y:Option α} (h1:Tot e a x) (h2:Tot e b y):Tot e (br t a b) (br t x y):=by cases t<;>assumption
theorem eU {α:Type} {e:ρ->α} {a:ρ} {x:α} (h:x=e a):Tot e a (some x):=congrArg some h
def ftO (pv:SPatL β) (f:β->ρ) (e:β->ρ->AV):List AV->Option (Bool×AV):=ocOf pv fun b=>(true,e b (f b))
theorem ftC (h:xFB Tryz.prog xGh E) {g:FuncId} {fn:Func} (hf:Tryz.prog.funcs[g]?=some fn) (nt pin:Nat) (ls:List TypeId) (lp:List (Nat×Lp)) {pv:SPatL β} {f:β->ρ} {e:β->ρ->AV}
  (hl:HL E nt pin ls lp fn) (t:β->(ρ->Option AV)->Option AV) (hx:TX E nt pin ls lp fn pv t e:=by intro b;kernel_rfl)
  (he:∀ b,Tot (e b) (f b) (t b fun p=>some (e b p)):=by intro b;repeat' first|apply eT|exact eU rfl)
  (hb:fn.body.isSome=true:=by exact rfl) (hn:(fn.name == "runtime.NumGoroutine")=false:=by kernel_rfl):OcOk Tryz.prog xGh g (ftO pv f e):=xkL fun b r hh=>by
 obtain ⟨_,h2⟩:=Prod.mk.inj hh;subst h2;exact xhV (p:=pin) (xkJ xFK (xFL Tryz.prog _) rfl h.fn hf hb hn hl ((hx b).trans (he b)))
theorem lk0 {Inv:IV} {c:Code} (h:xFU c=[]:=by kernel_rfl) (hc:((xFQ c).all fun d=>(E.lp (condId d)).isNone)=true:=by kernel_rfl):LoOk Tryz.prog Inv E c:=xer h hc
theorem lk1 {Inv:IV} {c l:Code} {lp0:Lp} (hok:LoopOk Tryz.prog Inv E.nt l lp0) (h:xFU c=[l]:=by kernel_rfl) (he:E.lp (xFP l)=some lp0:=by kernel_rfl) (hc:((xFQ c).all fun d=>(E.lp (condId d)).isNone)=true:=by kernel_rfl):LoOk Tryz.prog Inv E c:=xkr h (lkC hok lkN he) hc
structure EO where
 E:Env
 ok:xFB Tryz.prog xGh E
def EO.w (e:EO) {g:FuncId} {o:List AV->Option (Bool×AV)} (c:OcOk Tryz.prog xGh g o):EO:=⟨e.E.with g o,e.ok.with c⟩
def EO.wM (e:EO) {g:FuncId} {o:List AV->List Box->Option (Bool×AV×List Box)} (c:OmOk Tryz.prog xGh g o):EO:=⟨e.E.withM g o,e.ok.withM c⟩
theorem fnC (h:xFB Tryz.prog xGh E) {g:FuncId} {fn:Func} (hf:Tryz.prog.funcs[g]?=some fn) (nt pin:Nat) (ls:List TypeId) (lp:List (Nat×Lp)) {pv:SPatL β} {t:β->(T:Type)->T->(ρ->T)->T} {e:β->ρ->AV} {d:ρ}
  (hl:HL E nt pin ls lp fn) (hx:FX E nt pin ls lp fn pv t e:=by intro b;kernel_rfl)
  (he:FE t e:=by intro b;repeat' first|apply eB|exact eN|exact eS rfl)
  (hb:fn.body.isSome=true:=by exact rfl) (hn:(fn.name == "runtime.NumGoroutine")=false:=by kernel_rfl):OcOk Tryz.prog xGh g (fnO pv t e d):=xkL fun b r hh=>by
 obtain ⟨h1,h2⟩:=Prod.mk.inj hh;subst h2;exact xhV (p:=pin) (xkJ xFK (xFL Tryz.prog _) rfl h.fn hf hb hn hl ((hx b).trans (he b _ (xcl h1))))
theorem fmC (h:xFB Tryz.prog xGh E) {g:FuncId} {fn:Func} (hf:Tryz.prog.funcs[g]?=some fn) (nt pin:Nat) (ls:List TypeId) (lp:List (Nat×Lp)) {pv:SPatL β} {pb:Pat (List Box) γ} {t:β->γ->(T:Type)->T->(ρ->T)->T} {e:β->γ->ρ->AV×List Box} {d:ρ}
  (hl:HL E nt pin ls lp fn) (hx:MX E nt pin ls lp fn pv pb t e:=by intro b c;kernel_rfl)
  (he:ME t e:=by intro b c;repeat' first|apply eB|exact eN|exact eS rfl)
  (hp:∀ c,(pb.enc c).length=pin:=by exact fun _=>rfl) (hb:fn.body.isSome=true:=by exact rfl) (hn:(fn.name == "runtime.NumGoroutine")=false:=by kernel_rfl):OmOk Tryz.prog xGh g (fmO pv pb t e d):=xkM fun b c r H' hh=>by
 obtain ⟨h1,h2⟩:=Prod.mk.inj hh;exact xfX (p:=pin) (xhL xFK (xFL Tryz.prog _) rfl h.fn (hp c) hf hb hn hl (((hx b c).trans (he b c _ (xcl h1))).trans (congrArg some h2)))
theorem lpC (h:xFB Tryz.prog xGh E) (nt pin:Nat) (ls:List TypeId) (lp:List (Nat×Lp)) {l:Code} {lv lo:List Nat} {cv:List (Nat×Nat×TypeId)} {pv:Pat (List AV) β} {pb:Pat (List Box) γ} {F:β->γ->(σ->Option (σ⊕ρ))×σ×(ρ->LR)} {d:ρ}
  (hl:LoOk Tryz.prog (xGh.at pin) (E.fn nt pin (lsOf ls) (xFX lp)) l) (G:β->γ->σ->(β×γ)×((σ->Option RT)->(ρ->Option RT)->Option RT))
  (hx:LX E nt pin ls lp l lv lo cv pv pb F G:=by intro b c s;kernel_rfl)
  (he:LE pv pb F G:=by intro b c s;repeat' first|apply eB|exact eN|exact eS rfl)
  (hM:∀ b c,(G b c (F b c).2.1).1=(b,c):=by exact fun _ _=>rfl) (ho:∀ b c r,((F b c).2.2 r).okB=true:=by exact fun _ _ _=>rfl):LoopOk Tryz.prog (xGh.at pin) nt l (lpO lv lo cv pv pb F d):=xDQ fun b c r hh=>by
 obtain ⟨h1,h2⟩:=Prod.mk.inj hh;subst h2;have:=xsl xFK (xFL Tryz.prog _) rfl (h.fn (nt:=nt) (pin:=pin) (ls:=lsOf ls) (lp:=xFX lp)) hl (fun s=>(pv.enc (G b c s).1.1,pb.enc (G b c s).1.2)) (F b c).2.2 (fun p=>LR.okB_ne (ho b c p)) (fun s r hr=>(hx b c s).trans (he b c s r hr)) (xcl (d:=d) h1)
 dsimp only at this;rw [hM b c] at this;exact this
structure LO (pin nt:Nat) (l:Code) where
 lp:Lp
 ok:LoopOk Tryz.prog (xGh.at pin) nt l lp
noncomputable def EO.f (x:EO) {g:FuncId} {fn:Func} (hf:Tryz.prog.funcs[g]?=some fn) (nt pin:Nat) (ls:List TypeId) (lp:List (Nat×Lp))
 (hl:HL x.E nt pin ls lp fn) (pv:SPatL β) (t:β->(T:Type)->T->(ρ->T)->T) (e:β->ρ->AV) (d:ρ) (hx:FX x.E nt pin ls lp fn pv t e:=by intro b;kernel_rfl)
 (he:FE t e:=by intro b;repeat' first|apply eB|exact eN|exact eS rfl)
 (hb:fn.body.isSome=true:=by exact rfl) (hn:(fn.name == "runtime.NumGoroutine")=false:=by kernel_rfl):EO:=x.w (fnC (d:=d) x.ok hf nt pin ls lp hl hx he hb hn)
noncomputable def EO.fM (x:EO) {g:FuncId} {fn:Func} (hf:Tryz.prog.funcs[g]?=some fn) (nt pin:Nat) (ls:List TypeId) (lp:List (Nat×Lp))
 (hl:HL x.E nt pin ls lp fn) (pv:SPatL β) (pb:Pat (List Box) γ) (t:β->γ->(T:Type)->T->(ρ->T)->T) (e:β->γ->ρ->AV×List Box) (d:ρ) (hx:MX x.E nt pin ls lp fn pv pb t e:=by intro b c;kernel_rfl)
 (he:ME t e:=by intro b c;repeat' first|apply eB|exact eN|exact eS rfl)
 (hp:∀ c,(pb.enc c).length=pin:=by exact fun _=>rfl) (hb:fn.body.isSome=true:=by exact rfl) (hn:(fn.name == "runtime.NumGoroutine")=false:=by kernel_rfl):EO:=x.wM (fmC (d:=d) x.ok hf nt pin ls lp hl hx he hp hb hn)
noncomputable def EO.fT (x:EO) {g:FuncId} {fn:Func} (hf:Tryz.prog.funcs[g]?=some fn) (nt pin:Nat) (ls:List TypeId) (lp:List (Nat×Lp))
 (hl:HL x.E nt pin ls lp fn) (t:β->(ρ->Option AV)->Option AV) (pv:SPatL β) (f:β->ρ) (e:β->ρ->AV) (hx:TX x.E nt pin ls lp fn pv t e:=by intro b;kernel_rfl)
 (he:∀ b,Tot (e b) (f b) (t b fun p=>some (e b p)):=by intro b;repeat' first|apply eT|exact eU rfl)
 (hb:fn.body.isSome=true:=by exact rfl) (hn:(fn.name == "runtime.NumGoroutine")=false:=by kernel_rfl):EO:=x.w (ftC x.ok hf nt pin ls lp hl t hx he hb hn)
noncomputable def EO.l (x:EO) (nt pin:Nat) (ls:List TypeId) (lp:List (Nat×Lp)) (fn:Func) (k:Nat) (hl:LoOk Tryz.prog (xGh.at pin) (x.E.fn nt pin (lsOf ls) (xFX lp)) (xFF fn k)) (lv lo:List Nat) (cv:List (Nat×Nat×TypeId)) (pv:Pat (List AV) β) (pb:Pat (List Box) γ) (F:β->γ->(σ->Option (σ⊕ρ))×σ×(ρ->LR)) (d:ρ)
 (G:β->γ->σ->(β×γ)×((σ->Option RT)->(ρ->Option RT)->Option RT))
 (hx:LX x.E nt pin ls lp (xFF fn k) lv lo cv pv pb F G:=by intro b c s;kernel_rfl)
 (he:LE pv pb F G:=by intro b c s;repeat' first|apply eB|exact eN|exact eS rfl)
 (hM:∀ b c,(G b c (F b c).2.1).1=(b,c):=by exact fun _ _=>rfl) (ho:∀ b c r,((F b c).2.2 r).okB=true:=by exact fun _ _ _=>rfl):LO pin nt (xFF fn k):=⟨lpO lv lo cv pv pb F d,lpC x.ok nt pin ls lp hl G hx he hM ho⟩
theorem lks {Inv:IV} {c:Code} {ls:List Code} (hl:∀ l,l∈ls->∀ lp,E.lp (xFP l)=some lp->LoopOk Tryz.prog Inv E.nt l lp) (h:xFU c=ls:=by kernel_rfl) (hc:((xFQ c).all fun d=>(E.lp (condId d)).isNone)=true:=by kernel_rfl):LoOk Tryz.prog Inv E c:=xkr h hl hc
end
end
end Go.Sim
end
noncomputable section
namespace Go.Sim
theorem sUF:(∀ {σ ρ:Type} (s:σ),(inL s:Option (σ⊕ρ))=some (.inl s))/\(∀ {σ ρ:Type} (p:ρ),(inR p:Option (σ⊕ρ))=some (.inr p))/\(∀ (l:List AV) (i:Int),ixI l i=(decide ((0:Int)<=i)&&decide (i<(↑l.length:Int))))/\(∀ (l:List AV) (i:Int) (s:Sh) (k:Nat),ixS l i s k=(decide (i.toNat<l.length)&&xFz s ((l.getD i.toNat .top).cells.getD k .top)))/\(∀ (l:List AV) (i:Int) (n:Nat) (ss:List Sh) (k:Nat),ixT l i n ss k=(decide (i.toNat<l.length)&&((l.getD i.toNat .top).cells.length==n&&xFG ss (l.getD i.toNat .top).cells k)))/\(∀ (l:List AV) (i:Int) (k:Nat),gC l i k=(l.getD i.toNat .top).cells.getD k .top)/\(∀ (n:Nat) (l:List AV) (c z:Nat),rmB n l c z=(n==l.length&&(decide ((n+c)*z<=140737488355328)&&decide (n+c<=4611686018427387904)))) :=
 ⟨fun _=>rfl,fun _=>rfl,fun _ _=>rfl,fun _ _ _ _=>rfl,fun _ _ _ _ _=>rfl,fun _ _ _=>rfl,fun _ _ _ _=>rfl⟩
theorem sBU:((∀ {α β:Type} {l:List α} (f:α->β),(l.map f).length=l.length)/\(∀ {T:Type} {a b:T},br true a b=a)/\(∀ {T:Type} {a b:T},br false a b=b)/\(∀ (h:Decidable True),@decide True h=true)/\(∀ (h:Decidable False),@decide False h=false) /\
  (∀ b:Bool,(b&&true)=b)/\(∀ b:Bool,(true&&b)=b)/\((!true)=false)/\((!false)=true)/\(∀ n:Nat,(n:Int).toNat=n)/\(∀ n:Nat,(0:Int)<=(n:Int))/\(∀ {α:Type} {a:α},(some a).isSome=true)/\(∀ {α:Type} {a b:α},(some a).getD b=a) /\
  (∀ {α:Type} [BEq α] [ReflBEq α] (a:α),(a==a)=true)/\(∀ n:Nat,0+n=n)/\(∀ n:Nat,n - 0=n))/\(∀ {σ ρ:Type} (s:σ),(inL s:Option (σ⊕ρ))=some (.inl s))/\(∀ {σ ρ:Type} (p:ρ),(inR p:Option (σ⊕ρ))=some (.inr p))/\(∀ (l:List AV) (i:Int),ixI l i=(decide ((0:Int)<=i)&&decide (i<(↑l.length:Int))))/\(∀ (l:List AV) (i:Int) (s:Sh) (k:Nat),ixS l i s k=(decide (i.toNat<l.length)&&xFz s ((l.getD i.toNat .top).cells.getD k .top)))/\(∀ (l:List AV) (i:Int) (n:Nat) (ss:List Sh) (k:Nat),ixT l i n ss k=(decide (i.toNat<l.length)&&((l.getD i.toNat .top).cells.length==n&&xFG ss (l.getD i.toNat .top).cells k)))/\(∀ (l:List AV) (i:Int) (k:Nat),gC l i k=(l.getD i.toNat .top).cells.getD k .top)/\(∀ (n:Nat) (l:List AV) (c z:Nat),rmB n l c z=(n==l.length&&(decide ((n+c)*z<=140737488355328)&&decide (n+c<=4611686018427387904)))) :=
 ⟨⟨za,rfl,rfl,fun h=>by simp,fun h=>by simp,zS,Bool.true_and,rfl,rfl,zN,Int.natCast_nonneg,rfl,rfl,fun a=>beq_self_eq_true a,zH,Nat.sub_zero⟩,sUF⟩
theorem sOO:(∀ {α:Type} {l:List α},l.drop 0=l)/\(∀ {α:Type} {l:List α} {i:Nat},l.length<=i->l.take i=l)/\(∀ n:Nat,0+n=n)/\(∀ {α β:Type} {l:List α} (f:α->β),(l.map f).length=l.length)/\(∀ n:Nat,n<=n)/\(∀ (h:Decidable True),@decide True h=true)/\(∀ b:Bool,(b&&true)=b)/\(∀ {T:Type} {a b:T},br true a b=a) /\
  (∀ {α:Type} {a:α},(some a).isSome=true)/\(∀ {α:Type} {a b:α},(some a).getD b=a) :=
 ⟨zr,zi,zH,za,zd,fun h=>by simp,zS,rfl,rfl,rfl⟩
end Go.Sim
noncomputable def Go.Sim.M.xD4:Go.Sim.EO:=Go.Sim.EO.mk Go.Sim.M.E0 Go.Sim.M.xBL
end
noncomputable section
set_option maxRecDepth 100000
namespace Go.Sim.M
open Go.IntKind (i64 u64 u8)
open Go.RowKit Go.Proofs
def xdY {T:Type} (a:List UInt8) (δ:T) (κ:Int×Nat×LA->T):T:=br (decide ((byteAVs a).length*1<=140737488355328)&&decide ((byteAVs a).length<=4611686018427387904)) (κ ((↑a.length:Int),(byteAVs a).length,byteAVs a)) δ
def xbR (a:List UInt8):=xdY a none some
def xD6:EO:=xD4.fM Tryz.func123 19 1 [] [] lk0 (u2 (sEq (xGv 0 0 0 0)) (sEq pStr)) (q1 (qB 0 2 157 (q1 (xGw (q2 pNilptr pNils))))) (fun (_,a,_) (((_,_,_),_),_) _=>xdY a) (fun _ _ p=>(AV.tuple [AV.int .i64 p.1,.top],([⟨0,2,157,[AV.agg [AV.own 0 0 0 0,AV.osl 1 0 0 p.2.1]],false,false⟩,bF 0 1 5 p.2.2]:List Box))) (0,0,[])
def xdM {T:Type} (a:List UInt8) (n:Nat) (b:LA) (δ:T) (κ:Int×Nat×LA->T):T:=br (n==b.length&&(decide ((n+(byteAVs a).length)*1<=140737488355328)&&decide (n+(byteAVs a).length<=4611686018427387904))) (κ ((↑a.length:Int),n+(byteAVs a).length,b++byteAVs a)) δ
def xbi (a:List UInt8) (n:Nat) (b:LA):=xdM a n b none some
def xD7:EO:=xD6.fM Tryz.func123 19 2 [] [] lk0 (u2 (sEq (xGv 0 0 0 0)) (sEq pStr)) (q2 (xGy 0 2 157 false false (q1 (xGw (q2 (xGv 0 0 0 0) (xGu 1 0 0))))) (qB 0 1 5 xGm)) (fun (_,a,_) (((_,n,_),_),b,_) _=>xdM a n b) (fun _ _ p=>(AV.tuple [AV.int .i64 p.1,.top],([⟨0,2,157,[AV.agg [AV.own 0 0 0 0,AV.osl 1 1 0 p.2.1]],false,false⟩,bF 1 1 5 p.2.2]:List Box))) (0,0,[])
def xkF {T:Type} (a:List UInt8) (n:Nat) (b:LA) (δ:T) (κ:Int×Nat×LA->T):T:=br (n==b.length&&(decide ((n+(byteAVs a).length)*1<=140737488355328)&&decide (n+(byteAVs a).length<=4611686018427387904))) (κ ((↑a.length:Int),n+(byteAVs a).length,b++byteAVs a)) δ
def xw8:EO:=xD7.fM Tryz.func123 19 2 [] [] lk0 (u2 (sEq (xGv 0 0 0 0)) (sEq pStr)) (q2 (xGy 0 2 157 false false (q1 (xGw (q2 (xGv 0 0 0 0) (xGu 1 1 0))))) (qB 1 1 5 xGm)) (fun (_,a,_) (((_,n,_),_),b,_) _=>xkF a n b) (fun _ _ p=>(AV.tuple [AV.int .i64 p.1,.top],([⟨0,2,157,[AV.agg [AV.own 0 0 0 0,AV.osl 1 2 0 p.2.1]],false,false⟩,bF 2 1 5 p.2.2]:List Box))) (0,0,[])
def xbh:Env:=xw8.E.fn 17 1 (lsOf []) (xFX [])
theorem xjU:xFB P0 (xGh.at 1) xbh:=xw8.ok.fn
theorem xjd:LoOk P0 (xGh.at xbh.pin) xbh (Tryz.f125.body.getD .skip):=xer (by kernel_rfl)
def xeL (c:Int):Int:=((c))
def xfO (c:Int):Bool:=true
def xgH {T:Type} (c:Int) (δ:T) (κ:Int->T):T:=κ (c)
theorem xl1 (c:Int):Pre (xfO c) (XFM P0 xbh Tryz.f125 (Tryz.f125.body.getD .skip) [AV.own (0:Id) 0 0 0,AV.int .u8 c] [{ ver:=0,sz:=2,ty:=(157:TypeId),xs:=[AV.agg [AV.nilptr,AV.nils]],frz:=false,pm:=true }]) ((.top,([⟨0,2,157,[AV.agg [AV.own 0 0 0 0,AV.osl 1 0 0 1]],false,false⟩,⟨0,1,5,[AV.int .u8 (xeL c)],false,true⟩]:List Box))):=by
 have h:XFM P0 xbh Tryz.f125 (Tryz.f125.body.getD .skip) [AV.own (0:Id) 0 0 0,AV.int .u8 c] [{ ver:=0,sz:=2,ty:=(157:TypeId),xs:=[AV.agg [AV.nilptr,AV.nils]],frz:=false,pm:=true }]=xgH c none (fun (p:Int)=>some (((.top,([⟨0,2,157,[AV.agg [AV.own 0 0 0 0,AV.osl 1 0 0 1]],false,false⟩,⟨0,1,5,[AV.int .u8 p],false,true⟩]:List Box))):(AV×List Box))):=by kernel_rfl
 rw [h];unfold xeL xfO xgH;repeat' (first|exact Pre.none|exact Pre.tt rfl|exact Pre.some rfl|refine Pre.l ?_|refine Pre.r ?_|refine Pre.br (f:=fun (p:Int)=>(((.top,([⟨0,2,157,[AV.agg [AV.own 0 0 0 0,AV.osl 1 0 0 1]],false,false⟩,⟨0,1,5,[AV.int .u8 p],false,true⟩]:List Box))):(AV×List Box))) ?_ ?_|refine Pre.brt (f:=fun (p:Int)=>(((.top,([⟨0,2,157,[AV.agg [AV.own 0 0 0 0,AV.osl 1 0 0 1]],false,false⟩,⟨0,1,5,[AV.int .u8 p],false,true⟩]:List Box))):(AV×List Box))) ?_ ?_)
def xl0:LA->List Box->Option (Bool×AV×List Box):=omOf (xGj (sEq (xGv 0 0 0 0)) (xGj (sEq (pInt .u8)) xGl)) (xGi (xGy 0 2 (157:TypeId) false true (xGi (xGw (xGi pNilptr (xGi pNils xGk))) xGk)) xGk) fun (_,(c,_)) (((_,(_,_)),_),_)=>(true,((.top,([⟨0,2,157,[AV.agg [AV.own 0 0 0 0,AV.osl 1 0 0 1]],false,false⟩,⟨0,1,5,[AV.int .u8 (xeL c)],false,true⟩]:List Box))))
theorem xlx:OmOk P0 xGh 125 (xl0):=xkM fun b d h f e=>by
 obtain ⟨_,⟨c,_⟩⟩:=b;obtain ⟨⟨⟨_,⟨_,_⟩⟩,_⟩,_⟩:=d;obtain ⟨g,a⟩:=Prod.mk.inj e;refine xfX (p:=xbh.pin) (xhL xFK (xFL P0 _) rfl xjU rfl Tryz.func125 rfl (by kernel_rfl) xjd ((Pre.get (xl1 _) rfl).trans ?_))
 exact congrArg some a
def xD8:EO:=xw8.wM xlx
def xgt {T:Type} (c:Int) (n:Nat) (a:LA) (δ:T) (κ:Nat×LA->T):T:=br (rmB n a 1 1) (κ (n+1,a++[AV.int .u8 c])) δ
def xhJ (c:Int) (n:Nat) (a:LA):=xgt c n a none some
def xD9:EO:=xD8.fM Tryz.func125 17 2 [] [] lk0 (u2 (sEq (xGv 0 0 0 0)) (sEq (pInt .u8))) (q2 (xGy 0 2 157 false false (q1 (xGw (q2 (xGv 0 0 0 0) (xGu 1 0 0))))) (qB 0 1 5 xGm)) (fun (_,c,_) (((_,n,_),_),a,_) _=>xgt c n a) (fun _ _ p=>(.top,([⟨0,2,157,[AV.agg [AV.own 0 0 0 0,AV.osl 1 1 0 p.1]],false,false⟩,bF 1 1 5 p.2]:List Box))) (0,[])
def xd9 {T:Type} (c:Int) (n:Nat) (a:LA) (δ:T) (κ:Nat×LA->T):T:=br (rmB n a 1 1) (κ (n+1,a++[AV.int .u8 c])) δ
def xeD (c:Int) (n:Nat) (a:LA):=xd9 c n a none some
def xEa:EO:=xD9.fM Tryz.func125 17 2 [] [] lk0 (u2 (sEq (xGv 0 0 0 0)) (sEq (pInt .u8))) (q2 (xGy 0 2 157 false false (q1 (xGw (q2 (xGv 0 0 0 0) (xGu 1 1 0))))) (qB 1 1 5 xGm)) (fun (_,c,_) (((_,n,_),_),a,_) _=>xd9 c n a) (fun _ _ p=>(.top,([⟨0,2,157,[AV.agg [AV.own 0 0 0 0,AV.osl 1 2 0 p.1]],false,false⟩,bF 2 1 5 p.2]:List Box))) (0,[])
def xbs (a b:Int):Bool:=(br (decide (a>=0)) (br (decide (a<b)) ((decide (b<=1099511627776))) ((false))) ((false)))
def xte {T:Type} (a b:Int) (δ:T) (κ:Bool->T):T:=br (decide (a>=0)) (br (decide (a<b)) (κ (decide (b<=1099511627776))) (κ (false))) (κ (false))
def xw9:EO:=xEa.fT Tryz.func72 18 0 [] [] lk0 (fun ((a,b,_),_)=>xte a b none) (u1 (xGA (u2 uI uI))) (fun ((a,b,_),_)=>xbs a b) (fun _ p=>(AV.bool p))
def xeH (b:Int) (a:LA):=((a.getD (0+b.toNat) .top).cells.getD 0 .top).toInt
def xiI (d:Int) (c:Nat) (b a:LA):=((xbi (Lib.itoa (xeH d b)) c a).getD (0,0,[])).snd
def xiH (d:Int) (c:Nat) (b a:LA):=xeD 32 (xiI d c b a).fst (xiI d c b a).snd
def xiG (d:Int) (c:Nat) (b a:LA):=(xiH d c b a).getD (0,[])
def xgJ {T:Type} (k:LA) (l j:Int) (e:Nat) (i c:Int) (d:Nat) (f g:Int) (h:List UInt8) (a b:LA) (δ:T) (κl:(Int×Nat×Int×Int×List UInt8×LA×LA)->T) (κr:(Nat×Int×Int×List UInt8×LA)->T):T:=br (decide (c<i)) (br (decide (0<=c)&&decide (c<(↑e:Int))) (br (decide (0+c.toNat<a.length)&&xFz (Sh.int .i64) ((a.getD (0+c.toNat) .top).cells.getD 0 .top)) (br (decide ((-9223372036854775808)<=xeH c a)&&decide (xeH c a<=9223372036854775807)) (br ((xbi (Lib.itoa (xeH c a)) d b).isSome) (br ((xiH c d a b).isSome) (κl (i64.wrap (c+1),(xiG c d a b).fst,f,g,h,a,(xiG c d a b).snd)) δ) δ) δ) δ) δ) (κr (d,f,g,h,b))
def xbm (k:LA) (l e:Int) (c:Nat) (f:Int):StT (Int×Nat×Int×Int×List UInt8×LA×LA) (Nat×Int×Int×List UInt8×LA):=fun (g,d,h,i,j,b,a)=>xgJ k l e c f g d h i j b a none inL inR
def xfV:=xw9.l 37 0 [] [] Tryz.f109 1 lk0 [3,5,8,9,10,21,22,23] [3,5,8,9,10] [] (q8 (xGv 0 0 0 0) (xGv 1 0 0 0) (qL 3) qI qI (xGu 2 0 0) qI qI) (q4 (xGy 0 2 157 false false (q1 (xGw (q2 (xGv 0 0 0 0) (xGu 3 0 0))))) (qB 0 3 90 (q1 (xGw (q3 qI qI pStr)))) (qB 0 1 3 xGm) (qB 0 1 5 xGm)) (fun (_,_,k,m,e,c,f,g,_) (((_,d,_),_),((h,i,j,_),_),b,a,_)=>(xbm k m e c f,(g,d,h,i,j,b,a),fun p=>(.leaf (.exit 2) [AV.own 0 0 0 0,AV.own 1 0 0 0,AV.list 3 k,AV.int .i64 m,AV.int .i64 e] [⟨0,2,157,[AV.agg [AV.own 0 0 0 0,AV.osl 2 0 0 p.1]],false,false⟩,bF 0 3 90 [AV.agg [AV.int .i64 p.2.1,AV.int .i64 p.2.2.1,AV.str p.2.2.2.1]],bF 0 1 5 p.2.2.2.2]))) (0,0,0,[],[]) fun (_,_,k,m,e,c,f,_,_) _ (g,d,h,i,j,b,a)=>((((),(),k,m,e,c,f,g,()),((((),d,()),()),((h,i,j,()),()),b,a,())),xgJ k m e c f g d h i j b a none)
def xiF (b:LA) (e a:Int) (d:Nat) (c:LA):=Iter (xbm b e a 3 3) (0,d,(gC b a 0).toInt,(gC b a 1).toInt,(gC b a 2).toStr,[AV.int .i64 (gC b a 0).toInt,AV.int .i64 (gC b a 1).toInt,AV.int .i64 (↑(gC b a 2).toStr.length:Int)],c)
def xiE (d:LA) (e c:Int) (b:Nat) (a:LA):=(xiF d e c b a).getD (0,0,0,[],[])
def xiD (d:LA) (e c:Int) (b:Nat) (a:LA):=(xiE d e c b a).snd.snd.snd
def xiC (d:LA) (e c:Int) (b:Nat) (a:LA):=xbi (xiD d e c b a).fst (xiE d e c b a).fst (xiD d e c b a).snd
def xiB (d:LA) (e c:Int) (b:Nat) (a:LA):=((xiC d e c b a).getD (0,0,[])).snd
def xgI {T:Type} (d:LA) (e b:Int) (c:Nat) (a:LA) (δ:T) (κl:(Int×Nat×LA)->T) (κr:(Nat×LA)->T):T:=br (decide (b<e)) (br (ixI d b) (br (ixT d b 3 [Sh.int .i64,Sh.int .i64,Sh.str] 0) (br ((xiF d e b c a).isSome) (br ((xiC d e b c a).isSome) (κl (i64.wrap (b+1),(xiB d e b c a).fst,(xiB d e b c a).snd)) δ) δ) δ) δ) (κr (c,a))
def xcX (d:LA) (e:Int):StT (Int×Nat×LA) (Nat×LA):=fun (c,b,a)=>xgI d e c b a none inL inR
def xmS:=xw9.l 37 0 [] [(6,xfV.lp)] Tryz.f109 0 (lk1 xfV.ok) [3,8,9,10] [3] [] (q4 (xGv 0 0 0 0) (qL 3) qI qI) (q2 (xGy 0 2 157 false false (q1 (xGw (q2 (xGv 0 0 0 0) (xGu 1 0 0))))) (qB 0 1 5 xGm)) (fun (_,d,e,c,_) (((_,b,_),_),a,_)=>(xcX d e,(c,b,a),fun p=>(.leaf (.exit 0) [AV.own 0 0 0 0] [⟨0,2,157,[AV.agg [AV.own 0 0 0 0,AV.osl 1 0 0 p.1]],false,false⟩,bF 0 1 5 p.2]))) (0,[]) fun (_,d,e,_,_) _ (c,b,a)=>((((),d,e,c,()),((((),b,()),()),a,())),xgI d e c b a none)
def xcI (a:LA):=((a.getD 0 .top).cells.getD 0 .top).toInt
def xk4 (a:LA):=xhJ 32 ((xbR (Lib.itoa (xcI a))).getD (0,0,[])).snd.fst ((xbR (Lib.itoa (xcI a))).getD (0,0,[])).snd.snd
def xk3 (a:LA):=(xk4 a).getD (0,[])
def xk2 (a:LA):=Iter (xbm a (↑a.length:Int) 0 3 3) (1,(xk3 a).fst,xcI a,((a.getD 0 .top).cells.getD 1 .top).toInt,((a.getD 0 .top).cells.getD 2 .top).toStr,[AV.int .i64 (xcI a),AV.int .i64 ((a.getD 0 .top).cells.getD 1 .top).toInt,AV.int .i64 (↑((a.getD 0 .top).cells.getD 2 .top).toStr.length:Int)],(xk3 a).snd)
def xk1 (a:LA):=(xk2 a).getD (0,0,0,[],[])
def xk0 (a:LA):=(xk1 a).snd.snd.snd
def xkx (a:LA):=xbi (xk0 a).fst (xk1 a).fst (xk0 a).snd
def xkZ (a:LA):=((xkx a).getD (0,0,[])).snd
def xkY (a:LA):=Iter (xcX a (↑a.length:Int)) (1,(xkZ a).fst,(xkZ a).snd)
def xkX (a:LA):=(xkY a).getD (0,[])
def xfW (a:LA):=(xkX a).snd
def xl6 {T:Type} (a:LA) (δ:T) (κ:List UInt8->T):T:=br (decide (0<(↑a.length:Int))) (br (decide (0<(↑a.length:Int))) (br (decide (0<a.length)&&((a.getD 0 .top).cells.length==3&&xFG [Sh.int .i64,Sh.int .i64,Sh.str] (a.getD 0 .top).cells 0)) (br (decide ((-9223372036854775808)<=xcI a)&&decide (xcI a<=9223372036854775807)) (br ((xbR (Lib.itoa (xcI a))).isSome) (br ((xk4 a).isSome) (br ((xk2 a).isSome) (br ((xkx a).isSome) (br ((xkY a).isSome) (br (decide ((xkX a).fst=(xfW a).length)&&isBytes (xfW a)&&decide ((xfW a).length≠0)) (κ (strOf (xfW a))) δ) δ) δ) δ) δ) δ) δ) δ) δ) (κ ([]))
def xiA (a:LA):=xl6 a none some
def xEb:EO:=xw9.f Tryz.func109 37 0 [] [(6,xfV.lp),(3,xmS.lp)] (lks (lkC xmS.ok (lkC xfV.ok lkN))) (u1 (uL 3)) (fun (a,_) _=>xl6 a) (fun _ p=>AV.str p) []
def xhK (x:Int):Bool:=((x != x))
def xvU {T:Type} (x:Int) (δ:T) (κ:Bool->T):T:=κ (x != x)
def xEc:EO:=xEb.fT Tryz.func77 6 0 [] [] lk0 (fun (x,_)=>xvU x none) (u1 uI) (fun (x,_)=>xhK x) (fun _ p=>(AV.bool p))
def xbp (x y:Int):Int:=(br (xhK x) (br (xhK y) ((0)) (((-1)))) (br (xhK y) ((1)) (br (decide (x<y)) (((-1))) (br (decide (x>y)) ((1)) ((0))))))
def xt6 {T:Type} (x y:Int) (δ:T) (κ:Int->T):T:=br (xhK x) (br (xhK y) (κ (0)) (κ ((-1)))) (br (xhK y) (κ (1)) (br (decide (x<y)) (κ ((-1))) (br (decide (x>y)) (κ (1)) (κ (0)))))
def xya:EO:=xEc.fT Tryz.func51 20 0 [] [] lk0 (fun (x,y,_)=>xt6 x y none) (u2 uI uI) (fun (x,y,_)=>xbp x y) (fun _ p=>(AV.int .i64 p))
def xiv:Env:=xya.E.fn 18 0 (lsOf []) (xFX [])
theorem xuL:xFB P0 (xGh.at 0) xiv:=xya.ok.fn
theorem xs4:LoOk P0 (xGh.at xiv.pin) xiv (Tryz.f73.body.getD .skip):=xkr (ls:=[xFF Tryz.f73 0]) (by kernel_rfl) (fun l a lp b=>by
 simp only [zC,List.not_mem_nil,or_false] at a;rcases a with rfl
 . rw [show xiv.lp (xFP (xFF Tryz.f73 0))=none by kernel_rfl] at b
   simp at b)
def xjK (a b c:Int):Int:=(br (a != 0) ((a)) (br (b != 0) ((b)) (br (c != 0) ((c)) ((0)))))
def xr7 (a b c:Int):Bool:=true
def xuM {T:Type} (a b c:Int) (δ:T) (κ:Int->T):T:=br (a != 0) (κ (a)) (br (b != 0) (κ (b)) (br (c != 0) (κ (c)) (κ (0))))
theorem xAY (a b c:Int):Pre (xr7 a b c) (XF P0 xiv Tryz.f73 (Tryz.f73.body.getD .skip) [AV.list 1 [AV.int .i64 a,AV.int .i64 b,AV.int .i64 c]]) (AV.int .i64 (xjK a b c)):=by
 have h:XF P0 xiv Tryz.f73 (Tryz.f73.body.getD .skip) [AV.list 1 [AV.int .i64 a,AV.int .i64 b,AV.int .i64 c]]=xuM a b c none (fun (p:Int)=>some ((AV.int .i64 p):AV)):=by kernel_rfl
 rw [h];unfold xjK xr7 xuM;repeat' (first|exact Pre.none|exact Pre.tt rfl|exact Pre.some rfl|refine Pre.l ?_|refine Pre.r ?_|refine Pre.br (f:=fun (p:Int)=>((AV.int .i64 p):AV)) ?_ ?_|refine Pre.brt (f:=fun (p:Int)=>((AV.int .i64 p):AV)) ?_ ?_)
def xAX:LA->Option (Bool×AV):=ocOf (xGj (xGz 1 (xGi (pInt .i64) (xGi (pInt .i64) (xGi (pInt .i64) xGk)))) xGl) fun ((a,(b,(c,_))),_)=>(true,(AV.int .i64 (xjK a b c)))
theorem xAW:OcOk P0 xGh 73 (xAX):=xkL fun e h f=>by
 obtain ⟨⟨a,⟨b,⟨c,_⟩⟩⟩,_⟩:=e;obtain ⟨g,d⟩:=Prod.mk.inj f;refine xhV (p:=xiv.pin) (xkJ xFK (xFL P0 _) rfl xuL Tryz.func73 rfl (by kernel_rfl) xs4 ((Pre.get (xAY _ _ _) rfl).trans ?_))
 exact congrArg some d
def xEd:EO:=xya.w xAW
def xbr (a b:Int) (c:List UInt8) (d e:Int) (f:List UInt8):Int:=((xjK (xbp a d) (xbp b e) (Lib.compareBytes c f)))
def xsS {T:Type} (a b:Int) (c:List UInt8) (d e:Int) (f:List UInt8) (δ:T) (κ:Int->T):T:=κ (xjK (xbp a d) (xbp b e) (Lib.compareBytes c f))
def xBN:EO:=xEd.fT Tryz.func94 22 0 [] [] lk0 (fun ((a,b,c,_),(d,e,f,_),_)=>xsS a b c d e f none) (u2 (xGA (u3 uI uI (sEq pStr))) (xGA (u3 uI uI (sEq pStr)))) (fun ((a,b,c,_),(d,e,f,_),_)=>xbr a b c d e f) (fun _ p=>(AV.int .i64 p))
def xbZ (c b:LA) (a:Int):=xbr (gC b a 0).toInt (gC b a 1).toInt (gC b a 2).toStr (gC c a 0).toInt (gC c a 1).toInt (gC c a 2).toStr
def xb7 {T:Type} (e c b:LA) (d a:Int) (δ:T) (κl:(Int)->T) (κr:(Bool×(Int)×(Unit))->T):T:=br (decide (a<d)) (br (ixI b a) (br (ixT b a 3 [Sh.int .i64,Sh.int .i64,Sh.str] 0) (br (decide (a>=c.length)) (κr (true,(1),())) (br (ixI c a) (br (ixT c a 3 [Sh.int .i64,Sh.int .i64,Sh.str] 0) (br (xbZ c b a != 0) (κr (true,(xbZ c b a),())) (κl (i64.wrap (a+1)))) δ) δ)) δ) δ) (κr (false,0,()))
def xaY (d e a:LA) (b:Int):StT (Int) (Bool×(Int)×(Unit)):=fun (c)=>xb7 d e a b c none inL inR
def xi4:=xBN.l 39 0 [] [] Tryz.f93 0 lk0 [0,1,2,11,12,13] [0,1,6] [] (q6 (qL 3) (qL 3) (xFY 94 xGk) (qL 3) qI qI) xGk (fun (d,e,_,a,b,c,_) _=>(xaY d e a b,(c),fun p=>(.node p.1 (.leaf .ret [AV.list 3 d,AV.list 3 e,AV.int .i64 p.2.1] []) (.leaf (.exit 0) [AV.list 3 d,AV.list 3 e,.top] [])))) (false,0,()) fun (d,e,_,a,b,_,_) _ (c)=>(((d,e,(),a,b,c,()),()),xb7 d e a b c none)
def xh5 {T:Type} (a b:LA) (δ:T) (κ:Int->T):T:=br ((Iter (xaY a b a (↑a.length:Int)) 0).isSome) (br (((Iter (xaY a b a (↑a.length:Int)) 0).getD (false,0,())).fst) (κ (((Iter (xaY a b a (↑a.length:Int)) 0).getD (false,0,())).snd.fst)) (br (decide ((↑a.length:Int)<(↑b.length:Int))) (κ ((-1))) (κ (0)))) δ
def xi3 (a b:LA):=xh5 a b none some
def xEe:EO:=xBN.f Tryz.func93 39 0 [] [(2,xi4.lp)] (lk1 xi4.ok) (u3 (uL 3) (uL 3) (sEq (xFY (94:FuncId) xGk))) (fun (a,b,_,_) _=>xh5 a b) (fun _ p=>AV.int .i64 p) 0
def xlY {T:Type} (a b:LA) (δ:T) (κ:Int->T):T:=br ((xi3 a b).isSome) (κ ((xi3 a b).getD 0)) δ
def xkf (a b:LA):=xlY a b none some
def xEf:EO:=xEe.f Tryz.func75 8 0 [] [] lk0 (u2 (uL 3) (uL 3)) (fun (a,b,_) _=>xlY a b) (fun _ p=>AV.int .i64 p) 0
def xki {T:Type} (a c b d:LA) (δ:T) (κ:Int->T):T:=br ((xkf a b).isSome) (κ ((xkf a b).getD 0)) δ
def xcY (c a d b:LA):=xki c a d b none some
def xyb:EO:=xEf.f Tryz.func111 10 0 [] [] lk0 (u2 (xGA (u2 (uL 3) (uL 2))) (xGA (u2 (uL 3) (uL 2)))) (fun ((c,a,_),(d,b,_),_) _=>xki c a d b) (fun _ p=>AV.int .i64 p) 0
def xc5 (a:Nat) (j:Int):=decide (0<=i64.wrap (j - 1))&&decide (i64.wrap (j - 1)<(↑a:Int))
def xbQ (j:Int):Nat:=0+(i64.wrap (j - 1)).toNat
def xc6 (a:Nat) (j:Int):=decide (0<=j)&&decide (j<(↑a:Int))
def xeX (j:Int) (a:LA):=decide (0+j.toNat<a.length)
def xeV (j:Int) (a:LA):=xeX j a&&((a.getD (0+j.toNat) .top).cells.length==2&&xFG [Sh.list 3,Sh.list 2] (a.getD (0+j.toNat) .top).cells 0)
def xax (j:Int) (a:LA):=(a.getD (xbQ j) .top).cells
def xeT (j:Int) (a:LA):=decide (xbQ j<a.length)&&((xax j a).length==2&&xFG [Sh.list 3,Sh.list 2] (xax j a) 0)
def xeU (j:Int) (a:LA):=xcY ((a.getD (0+j.toNat) .top).cells.getD 0 .top).toList ((a.getD (0+j.toNat) .top).cells.getD 1 .top).toList ((xax j a).getD 0 .top).toList ((xax j a).getD 1 .top).toList
def xeW (j:Int) (a:LA):=a.set (0+j.toNat) (AV.agg [AV.list 3 ((xax j a).getD 0 .top).toList,AV.list 2 ((xax j a).getD 1 .top).toList])
def xe7 {T:Type} (d:Nat) (a b i j:Int) (c:LA) (δ:T) (κl:(Int×LA)->T) (κr:(LA)->T):T:=br (decide (j>a)) (br (xc6 d j) (br (xeV j c) (br (xc5 d j) (br (xeT j c) (br ((xeU j c).isSome) (br (decide ((xeU j c).getD 0<0)) (br (xc5 d j) (br (xeT j c) (br (xc6 d j) (br (xeV j c) (br (xc6 d j) (br (xeX j c) (br (xc5 d j) (br (decide (xbQ j<(xeW j c).length)) (κl (i64.wrap (j - 1),(xeW j c).set (xbQ j) (AV.agg [AV.list 3 ((c.getD (0+j.toNat) .top).cells.getD 0 .top).toList,AV.list 2 ((c.getD (0+j.toNat) .top).cells.getD 1 .top).toList]))) δ) δ) δ) δ) δ) δ) δ) δ) (κr (c))) δ) δ) δ) δ) δ) (κr (c))
def xbD (d:Nat) (a b i:Int):StT (Int×LA) (LA):=fun (j,c)=>xe7 d a b i j c none inL inR
def xbP:=xyb.l 53 1 [124] [] Tryz.f144 1 lk0 [0,1,2,3,8,9] [0,1,2,3,8] [] (q6 (xGu 0 0 0) qI qI (xFY 111 xGk) qI qI) (q1 (qB 0 2 124 xGm)) (fun (c,a,b,_,i,j,_) (d,_)=>(xbD c a b i,(j,d),fun p=>(.leaf (.exit 2) [AV.osl 0 0 0 c,AV.int .i64 a,AV.int .i64 b,AV.func 111 [],AV.int .i64 i] [bF 0 2 124 p]))) [] fun (c,a,b,_,i,_,_) _ (j,d)=>(((c,a,b,(),i,j,()),(d,())),xe7 c a b i j d none)
def xe6 {T:Type} (d:Nat) (a b i:Int) (c:LA) (δ:T) (κl:(Int×LA)->T) (κr:(LA)->T):T:=br (decide (i<b)) (br ((Iter (xbD d a b i) (i,c)).isSome) (κl (i64.wrap (i+1),(Iter (xbD d a b i) (i,c)).getD [])) δ) (κr (c))
def xbC (d:Nat) (a b:Int):StT (Int×LA) (LA):=fun (i,c)=>xe6 d a b i c none inL inR
def xeS:=xyb.l 53 1 [124] [(4,xbP.lp)] Tryz.f144 0 (lk1 xbP.ok) [0,1,2,3,8] [] [] (q5 (xGu 0 0 0) qI qI (xFY 111 xGk) qI) (q1 (qB 0 2 124 xGm)) (fun (d,a,b,_,i,_) (c,_)=>(xbC d a b,(i,c),fun p=>(.leaf (.exit 0) [] [bF 0 2 124 p]))) [] fun (d,a,b,_,_,_) _ (i,c)=>(((d,a,b,(),i,()),(c,())),xe6 d a b i c none)
def xdX {T:Type} (n:Nat) (a b:Int) (c:LA) (δ:T) (κ:LA->T):T:=br ((Iter (xbC n a b) (i64.wrap (a+1),c)).isSome) (κ ((Iter (xbC n a b) (i64.wrap (a+1),c)).getD [])) δ
def xbj (n:Nat) (a b:Int) (c:LA):=xdX n a b c none some
def xBO:EO:=xyb.fM Tryz.func144 53 1 [124] [(4,xbP.lp),(1,xeS.lp)] (lks (lkC xeS.ok (lkC xbP.ok lkN))) (u4 (sEq (xGu 0 0 0)) uI uI (sEq (xFY (111:FuncId) xGk))) (q1 (qB 0 2 124 xGm)) (fun (n,a,b,_,_) (c,_) _=>xdX n a b c) (fun _ _ p=>(AV.tuple [],([bF 0 2 124 p]:List Box))) []
def xfL (a i:Int) (b:LA):=decide (0+(i64.wrap (a+i)).toNat<b.length)
def xch (a i:Int) (b:LA):=(b.getD (0+(i64.wrap (a+i)).toNat) .top).cells
def xfM (a:Nat) (b i:Int):=decide (0<=i64.wrap (b+i))&&decide (i64.wrap (b+i)<(↑a:Int))
def xfN (b:Nat) (a i:Int):=decide (0<=i64.wrap (a+i))&&decide (i64.wrap (a+i)<(↑b:Int))
def xcj (b i:Int):Nat:=0+(i64.wrap (b+i)).toNat
def xci (b i:Int) (a:LA):=(a.getD (xcj b i) .top).cells
def xfK (a b i:Int) (c:LA):=c.set (0+(i64.wrap (a+i)).toNat) (AV.agg [AV.list 3 ((xci b i c).getD 0 .top).toList,AV.list 2 ((xci b i c).getD 1 .top).toList])
def xgf {T:Type} (d:Nat) (a b n i:Int) (c:LA) (δ:T) (κl:(Int×LA)->T) (κr:(LA)->T):T:=br (decide (i<n)) (br (xfM d b i) (br (decide (xcj b i<c.length)&&((xci b i c).length==2&&xFG [Sh.list 3,Sh.list 2] (xci b i c) 0)) (br (xfN d a i) (br (xfL a i c&&((xch a i c).length==2&&xFG [Sh.list 3,Sh.list 2] (xch a i c) 0)) (br (xfN d a i) (br (xfL a i c) (br (xfM d b i) (br (decide (xcj b i<(xfK a b i c).length)) (κl (i64.wrap (i+1),(xfK a b i c).set (xcj b i) (AV.agg [AV.list 3 ((xch a i c).getD 0 .top).toList,AV.list 2 ((xch a i c).getD 1 .top).toList]))) δ) δ) δ) δ) δ) δ) δ) δ) (κr (c))
def xb1 (d:Nat) (a b n:Int):StT (Int×LA) (LA):=fun (i,c)=>xgf d a b n i c none inL inR
def xfJ:=xBO.l 38 1 [124] [] Tryz.f173 0 lk0 [0,1,2,3,10] [] [] (q5 (xGu 0 0 0) qI qI qI qI) (q1 (qB 0 2 124 xGm)) (fun (d,a,b,n,i,_) (c,_)=>(xb1 d a b n,(i,c),fun p=>(.leaf (.exit 0) [] [bF 0 2 124 p]))) [] fun (d,a,b,n,_,_) _ (i,c)=>(((d,a,b,n,i,()),(c,())),xgf d a b n i c none)
def xeK {T:Type} (n:Nat) (a b k:Int) (c:LA) (δ:T) (κ:LA->T):T:=br ((Iter (xb1 n a b k) (0,c)).isSome) (κ ((Iter (xb1 n a b k) (0,c)).getD [])) δ
def xa6 (n:Nat) (a b k:Int) (c:LA):=xeK n a b k c none some
def xBP:EO:=xBO.fM Tryz.func173 38 1 [124] [(1,xfJ.lp)] (lk1 xfJ.ok) (u5 (sEq (xGu 0 0 0)) uI uI uI (sEq (xFY (111:FuncId) xGk))) (q1 (qB 0 2 124 xGm)) (fun (n,a,b,k,_,_) (c,_) _=>xeK n a b k c) (fun _ _ p=>(AV.tuple [],([bF 0 2 124 p]:List Box))) []
def xhO {T:Type} (b:Nat) (m i j:Int) (a:LA) (δ:T) (κl:(Int×Int×LA)->T) (κr:(Int×LA)->T):T:=br (i != j) (br (decide (i>j)) (br ((xa6 b (i64.wrap (m - i)) m j a).isSome) (κl (i64.wrap (i - j),j,(xa6 b (i64.wrap (m - i)) m j a).getD [])) δ) (br ((xa6 b (i64.wrap (m - i)) (i64.wrap (i64.wrap (m+j) - i)) i a).isSome) (κl (i,i64.wrap (j - i),(xa6 b (i64.wrap (m - i)) (i64.wrap (i64.wrap (m+j) - i)) i a).getD [])) δ)) (κr (i,a))
def xd6 (b:Nat) (m:Int):StT (Int×Int×LA) (Int×LA):=fun (i,j,a)=>xhO b m i j a none inL inR
def xhs:=xBP.l 58 1 [124] [] Tryz.f163 0 lk0 [0,2,4,10,11] [0,2,4,10] [] (q5 (xGu 0 0 0) qI (xFY 111 xGk) qI qI) (q1 (qB 0 2 124 xGm)) (fun (a,m,_,i,j,_) (b,_)=>(xd6 a m,(i,j,b),fun p=>(.leaf (.exit 0) [AV.osl 0 0 0 a,AV.int .i64 m,AV.func 111 [],AV.int .i64 p.1] [bF 0 2 124 p.2]))) (0,[]) fun (a,m,_,_,_,_) _ (i,j,b)=>(((a,m,(),i,j,()),(b,())),xhO a m i j b none)
def xfk (n:Nat) (a m b:Int) (c:LA):=Iter (xd6 n m) (i64.wrap (m - a),i64.wrap (b - m),c)
def xfj (n:Nat) (a m b:Int) (c:LA):=(xfk n a m b c).getD (0,[])
def xfi (n:Nat) (a m b:Int) (c:LA):=(xfj n a m b c).fst
def xfh (n:Nat) (a m b:Int) (c:LA):=xa6 n (i64.wrap (m - xfi n a m b c)) m (xfi n a m b c) (xfj n a m b c).snd
def xfD {T:Type} (n:Nat) (a m b:Int) (c:LA) (δ:T) (κ:LA->T):T:=br ((xfk n a m b c).isSome) (br ((xfh n a m b c).isSome) (κ ((xfh n a m b c).getD [])) δ) δ
def xbO (n:Nat) (a m b:Int) (c:LA):=xfD n a m b c none some
def xnC:EO:=xBP.fM Tryz.func163 58 1 [124] [(2,xhs.lp)] (lk1 xhs.ok) (u5 (sEq (xGu 0 0 0)) uI uI uI (sEq (xFY (111:FuncId) xGk))) (q1 (qB 0 2 124 xGm)) (fun (n,a,m,b,_,_) (c,_) _=>xfD n a m b c) (fun _ _ p=>(AV.tuple [],([bF 0 2 124 p]:List Box))) []
def xbd (i j:Int):=i64.wrap ((u64.wrap (i64.wrap (i+j))).fdiv 2)
def xcy (i j:Int) (a:LA):=(a.getD (0+(xbd i j).toNat) .top).cells
def xgg (a i j:Int) (b:LA):=xcY ((xcy i j b).getD 0 .top).toList ((xcy i j b).getD 1 .top).toList ((b.getD (0+a.toNat) .top).cells.getD 0 .top).toList ((b.getD (0+a.toNat) .top).cells.getD 1 .top).toList
def xgC {T:Type} (c:Nat) (a i j:Int) (b:LA) (δ:T) (κl:(Int×Int×LA)->T) (κr:(Int×LA)->T):T:=br (decide (i<j)) (br (decide (0<=xbd i j)&&decide (xbd i j<(↑c:Int))) (br (decide (0+(xbd i j).toNat<b.length)&&((xcy i j b).length==2&&xFG [Sh.list 3,Sh.list 2] (xcy i j b) 0)) (br (decide (0<=a)&&decide (a<(↑c:Int))) (br (decide (0+a.toNat<b.length)&&((b.getD (0+a.toNat) .top).cells.length==2&&xFG [Sh.list 3,Sh.list 2] (b.getD (0+a.toNat) .top).cells 0)) (br ((xgg a i j b).isSome) (br (decide ((xgg a i j b).getD 0<0)) (κl (i64.wrap (xbd i j+1),j,b)) (κl (i,xbd i j,b))) δ) δ) δ) δ) δ) (κr (i,b))
def xbu (c:Nat) (a:Int):StT (Int×Int×LA) (Int×LA):=fun (i,j,b)=>xgC c a i j b none inL inR
def xa1:=xnC.l 220 1 [124] [] Tryz.f145 0 lk0 [0,1,4,10,11] [0,1,10] [] (q5 (xGu 0 0 0) qI (xFY 111 xGk) qI qI) (q1 (qB 0 2 124 xGm)) (fun (b,a,_,i,j,_) (c,_)=>(xbu b a,(i,j,c),fun p=>(.leaf (.exit 0) [AV.osl 0 0 0 b,AV.int .i64 a,AV.int .i64 p.1] [bF 0 2 124 p.2]))) (0,[]) fun (b,a,_,_,_,_) _ (i,j,c)=>(((b,a,(),i,j,()),(c,())),xgC b a i j c none)
def xgi (a:Nat) (k:Int):=decide (0<=i64.wrap (k+1))&&decide (i64.wrap (k+1)<(↑a:Int))
def xcA (k:Int):Nat:=0+(i64.wrap (k+1)).toNat
def xgj (k:Int) (a:LA):=decide (0+k.toNat<a.length)
def xcz (k:Int) (a:LA):=(a.getD (xcA k) .top).cells
def xgh (k:Int) (a:LA):=a.set (0+k.toNat) (AV.agg [AV.list 3 ((xcz k a).getD 0 .top).toList,AV.list 2 ((xcz k a).getD 1 .top).toList])
def xgD {T:Type} (b:Nat) (i k:Int) (a:LA) (δ:T) (κl:(Int×LA)->T) (κr:(LA)->T):T:=br (decide (k<i64.wrap (i - 1))) (br (xgi b k) (br (decide (xcA k<a.length)&&((xcz k a).length==2&&xFG [Sh.list 3,Sh.list 2] (xcz k a) 0)) (br (decide (0<=k)&&decide (k<(↑b:Int))) (br (xgj k a&&((a.getD (0+k.toNat) .top).cells.length==2&&xFG [Sh.list 3,Sh.list 2] (a.getD (0+k.toNat) .top).cells 0)) (br (decide (0<=k)&&decide (k<(↑b:Int))) (br (xgj k a) (br (xgi b k) (br (decide (xcA k<(xgh k a).length)) (κl (i64.wrap (k+1),(xgh k a).set (xcA k) (AV.agg [AV.list 3 ((a.getD (0+k.toNat) .top).cells.getD 0 .top).toList,AV.list 2 ((a.getD (0+k.toNat) .top).cells.getD 1 .top).toList]))) δ) δ) δ) δ) δ) δ) δ) δ) (κr (a))
def xdJ (b:Nat) (i:Int):StT (Int×LA) (LA):=fun (k,a)=>xgD b i k a none inL inR
def xbe:=xnC.l 220 1 [124] [(3,xa1.lp)] Tryz.f145 1 lk0 [0,10,13] [] [] (q3 (xGu 0 0 0) qI qI) (q1 (qB 0 2 124 xGm)) (fun (b,i,k,_) (a,_)=>(xdJ b i,(k,a),fun p=>(.leaf (.exit 2) [] [bF 0 2 124 p]))) [] fun (b,i,_,_) _ (k,a)=>(((b,i,k,()),(a,())),xgD b i k a none)
def xbf (i j:Int):=i64.wrap ((u64.wrap (i64.wrap (i+j))).fdiv 2)
def xcB (i j:Int) (a:LA):=(a.getD (0+(xbf i j).toNat) .top).cells
def xgk (m i j:Int) (a:LA):=xcY ((a.getD (0+m.toNat) .top).cells.getD 0 .top).toList ((a.getD (0+m.toNat) .top).cells.getD 1 .top).toList ((xcB i j a).getD 0 .top).toList ((xcB i j a).getD 1 .top).toList
def xgE {T:Type} (b:Nat) (m i j:Int) (a:LA) (δ:T) (κl:(Int×Int×LA)->T) (κr:(Int×LA)->T):T:=br (decide (i<j)) (br (decide (0<=m)&&decide (m<(↑b:Int))) (br (decide (0+m.toNat<a.length)&&((a.getD (0+m.toNat) .top).cells.length==2&&xFG [Sh.list 3,Sh.list 2] (a.getD (0+m.toNat) .top).cells 0)) (br (decide (0<=xbf i j)&&decide (xbf i j<(↑b:Int))) (br (decide (0+(xbf i j).toNat<a.length)&&((xcB i j a).length==2&&xFG [Sh.list 3,Sh.list 2] (xcB i j a) 0)) (br ((xgk m i j a).isSome) (br (!decide ((xgk m i j a).getD 0<0)) (κl (i64.wrap (xbf i j+1),j,a)) (κl (i,xbf i j,a))) δ) δ) δ) δ) δ) (κr (i,a))
def xbv (b:Nat) (m:Int):StT (Int×Int×LA) (Int×LA):=fun (i,j,a)=>xgE b m i j a none inL inR
def xbM:=xnC.l 220 1 [124] [(3,xa1.lp),(9,xbe.lp)] Tryz.f145 2 lk0 [0,2,4,14,15] [0,2,14] [] (q5 (xGu 0 0 0) qI (xFY 111 xGk) qI qI) (q1 (qB 0 2 124 xGm)) (fun (a,m,_,i,j,_) (b,_)=>(xbv a m,(i,j,b),fun p=>(.leaf (.exit 4) [AV.osl 0 0 0 a,AV.int .i64 m,AV.int .i64 p.1] [bF 0 2 124 p.2]))) (0,[]) fun (a,m,_,_,_,_) _ (i,j,b)=>(((a,m,(),i,j,()),(b,())),xgE a m i j b none)
def xgm (a:Nat) (k:Int):=decide (0<=i64.wrap (k - 1))&&decide (i64.wrap (k - 1)<(↑a:Int))
def xcE (k:Int):Nat:=0+(i64.wrap (k - 1)).toNat
def xgn (k:Int) (a:LA):=decide (0+k.toNat<a.length)
def xcD (k:Int) (a:LA):=(a.getD (xcE k) .top).cells
def xgl (k:Int) (a:LA):=a.set (0+k.toNat) (AV.agg [AV.list 3 ((xcD k a).getD 0 .top).toList,AV.list 2 ((xcD k a).getD 1 .top).toList])
def xgF {T:Type} (b:Nat) (i k:Int) (a:LA) (δ:T) (κl:(Int×LA)->T) (κr:(LA)->T):T:=br (decide (k>i)) (br (xgm b k) (br (decide (xcE k<a.length)&&((xcD k a).length==2&&xFG [Sh.list 3,Sh.list 2] (xcD k a) 0)) (br (decide (0<=k)&&decide (k<(↑b:Int))) (br (xgn k a&&((a.getD (0+k.toNat) .top).cells.length==2&&xFG [Sh.list 3,Sh.list 2] (a.getD (0+k.toNat) .top).cells 0)) (br (decide (0<=k)&&decide (k<(↑b:Int))) (br (xgn k a) (br (xgm b k) (br (decide (xcE k<(xgl k a).length)) (κl (i64.wrap (k - 1),(xgl k a).set (xcE k) (AV.agg [AV.list 3 ((a.getD (0+k.toNat) .top).cells.getD 0 .top).toList,AV.list 2 ((a.getD (0+k.toNat) .top).cells.getD 1 .top).toList]))) δ) δ) δ) δ) δ) δ) δ) δ) (κr (a))
def xdK (b:Nat) (i:Int):StT (Int×LA) (LA):=fun (k,a)=>xgF b i k a none inL inR
def xcC:=xnC.l 220 1 [124] [(3,xa1.lp),(9,xbe.lp),(15,xbM.lp)] Tryz.f145 3 lk0 [0,14,17] [] [] (q3 (xGu 0 0 0) qI qI) (q1 (qB 0 2 124 xGm)) (fun (b,i,k,_) (a,_)=>(xdK b i,(k,a),fun p=>(.leaf (.exit 6) [] [bF 0 2 124 p]))) [] fun (b,i,_,_) _ (k,a)=>(((b,i,k,()),(a,())),xgF b i k a none)
def xaP (a r:Int):=i64.wrap ((u64.wrap (i64.wrap (a+r))).fdiv 2)
def xcF (c b r:Int) (a:LA):=(a.getD (0+(i64.wrap (c - xaP b r)).toNat) .top).cells
def xcG (b r:Int) (a:LA):=(a.getD (0+(xaP b r).toNat) .top).cells
def xgo (c b r:Int) (a:LA):=xcY ((xcF c b r a).getD 0 .top).toList ((xcF c b r a).getD 1 .top).toList ((xcG b r a).getD 0 .top).toList ((xcG b r a).getD 1 .top).toList
def xgG {T:Type} (e:Nat) (a m b g n f c r:Int) (d:LA) (δ:T) (κl:(Int×Int×LA)->T) (κr:(Int×LA)->T):T:=br (decide (c<r)) (br (decide (0<=i64.wrap (f - xaP c r))&&decide (i64.wrap (f - xaP c r)<(↑e:Int))) (br (decide (0+(i64.wrap (f - xaP c r)).toNat<d.length)&&((xcF f c r d).length==2&&xFG [Sh.list 3,Sh.list 2] (xcF f c r d) 0)) (br (decide (0<=xaP c r)&&decide (xaP c r<(↑e:Int))) (br (decide (0+(xaP c r).toNat<d.length)&&((xcG c r d).length==2&&xFG [Sh.list 3,Sh.list 2] (xcG c r d) 0)) (br ((xgo f c r d).isSome) (br (!decide ((xgo f c r d).getD 0<0)) (κl (i64.wrap (xaP c r+1),r,d)) (κl (c,xaP c r,d))) δ) δ) δ) δ) δ) (κr (c,d))
def xcf (d:Nat) (a m b f n g:Int):StT (Int×Int×LA) (Int×LA):=fun (e,r,c)=>xgG d a m b f n g e r c none inL inR
def xd8:=xnC.l 220 1 [124] [(3,xa1.lp),(9,xbe.lp),(15,xbM.lp),(21,xcC.lp)] Tryz.f145 4 lk0 [0,1,2,3,4,18,19,20,21,22] [0,1,2,3,4,18,19,20] [] (q10 (xGu 0 0 0) qI qI qI (xFY 111 xGk) qI qI qI qI qI) (q1 (qB 0 2 124 xGm)) (fun (c,a,m,b,_,f,n,e,r,g,_) (d,_)=>(xcf c a m b f n g,(e,r,d),fun p=>(.leaf (.exit 8) [AV.osl 0 0 0 c,AV.int .i64 a,AV.int .i64 m,AV.int .i64 b,AV.func 111 [],AV.int .i64 f,AV.int .i64 n,AV.int .i64 p.1] [bF 0 2 124 p.2]))) (0,[]) fun (c,a,m,b,_,f,n,_,_,g,_) _ (e,r,d)=>(((c,a,m,b,(),f,n,e,r,g,()),(d,())),xgG c a m b f n g e r d none)
def xeh (R:Nat->Int->Int->Int->LA->Option (LA)):LA->List Box->Option (Bool×AV×List Box):=omOf (xGj (sEq (xGu 0 0 0)) (xGj (sEq (pInt .i64)) (xGj (sEq (pInt .i64)) (xGj (sEq (pInt .i64)) (xGj (sEq (xFY (111:FuncId) xGk)) xGl))))) (xGi (xGy 0 2 (124:TypeId) false true xGm) xGk) fun (n,(a,(m,(b,(_,_))))) (c,_)=>((R n a m b c).isSome,(AV.tuple [],([⟨0,2,124,((R n a m b c).getD []),false,true⟩]:List Box)))
def xaQ (R:Nat->Int->Int->Int->LA->Option (LA)):Env:=(xnC.E.withM 145 (xeh R)).fn 220 1 (lsOf [124]) (xFX [(3,xa1.lp),(9,xbe.lp),(15,xbM.lp),(21,xcC.lp),(33,xd8.lp)])
def xd7 (R:Nat->Int->Int->Int->LA->Option (LA)):Prop:=OmOk P0 xGh 145 (xeh R)
theorem xlO (R:Nat->Int->Int->Int->LA->Option (LA)) (a:xd7 R):xFB P0 (xGh.at 1) (xaQ R):=(xnC.ok.withM a).fn
theorem xjT (R:Nat->Int->Int->Int->LA->Option (LA)):LoOk P0 (xGh.at (xaQ R).pin) (xaQ R) (Tryz.f145.body.getD .skip):=xkr (ls:=[xFF Tryz.f145 0,xFF Tryz.f145 1,xFF Tryz.f145 2,xFF Tryz.f145 3,xFF Tryz.f145 4]) (by kernel_rfl) (fun l b lp a=>by
 simp only [zC,List.not_mem_nil,or_false] at b;rcases b with rfl|rfl|rfl|rfl|rfl
 . rw [show (xaQ R).lp (xFP (xFF Tryz.f145 0))=some xa1.lp by kernel_rfl] at a
   simp only [z6] at a;subst a;exact xa1.ok
 . rw [show (xaQ R).lp (xFP (xFF Tryz.f145 1))=some xbe.lp by kernel_rfl] at a
   simp only [z6] at a;subst a;exact xbe.ok
 . rw [show (xaQ R).lp (xFP (xFF Tryz.f145 2))=some xbM.lp by kernel_rfl] at a
   simp only [z6] at a;subst a;exact xbM.ok
 . rw [show (xaQ R).lp (xFP (xFF Tryz.f145 3))=some xcC.lp by kernel_rfl] at a
   simp only [z6] at a;subst a;exact xcC.ok
 . rw [show (xaQ R).lp (xFP (xFF Tryz.f145 4))=some xd8.lp by kernel_rfl] at a
   simp only [z6] at a;subst a;exact xd8.ok)
def xaa (a b:Int):=i64.wrap ((u64.wrap (i64.wrap (a+b))).fdiv 2)
def xaA (n:Nat) (a m b:Int) (c:LA):=Iter (xdJ n ((Iter (xbu n a) (m,b,c)).getD (0,[])).fst) (a,((Iter (xbu n a) (m,b,c)).getD (0,[])).snd)
def xaB (n:Nat) (a m:Int) (b:LA):=Iter (xdK n ((Iter (xbv n m) (a,m,b)).getD (0,[])).fst) (m,((Iter (xbv n m) (a,m,b)).getD (0,[])).snd)
def xaC (n:Nat) (a m b:Int) (c:LA):=Iter (xcf n a m b (xaa a b) (i64.wrap (xaa a b+m)) (i64.wrap (i64.wrap (xaa a b+m) - 1))) (i64.wrap (i64.wrap (xaa a b+m) - b),xaa a b,c)
def xaE (n:Nat) (a m b:Int) (c:LA):=Iter (xcf n a m b (xaa a b) (i64.wrap (xaa a b+m)) (i64.wrap (i64.wrap (xaa a b+m) - 1))) (a,m,c)
def xaz (n:Nat) (a m b:Int) (c:LA):=(xaC n a m b c).getD (0,[])
def xaD (n:Nat) (a m b:Int) (c:LA):=(xaE n a m b c).getD (0,[])
def xab (n:Nat) (a m b:Int) (c:LA):=(xaz n a m b c).fst
def xac (n:Nat) (a m b:Int) (c:LA):=(xaD n a m b c).fst
def xaf (n:Nat) (a m b:Int) (c:LA):=(xaz n a m b c).snd
def xag (n:Nat) (a m b:Int) (c:LA):=(xaD n a m b c).snd
def xad (n:Nat) (a m b:Int) (c:LA):=i64.wrap (i64.wrap (xaa a b+m) - xab n a m b c)
def xae (n:Nat) (a m b:Int) (c:LA):=i64.wrap (i64.wrap (xaa a b+m) - xac n a m b c)
def xau (n:Nat) (a m b:Int) (c:LA):=decide (xab n a m b c<xaa a b)
def xav (n:Nat) (a m b:Int) (c:LA):=decide (a<xab n a m b c)
def xaw (n:Nat) (a m b:Int) (c:LA):=decide (xac n a m b c<xaa a b)
def xay (n:Nat) (a m b:Int) (c:LA):=decide (a<xac n a m b c)
def xaj (n:Nat) (a m b:Int) (c:LA):=decide (xaa a b<xad n a m b c)
def xak (n:Nat) (a m b:Int) (c:LA):=decide (xad n a m b c<b)
def xal (n:Nat) (a m b:Int) (c:LA):=decide (xaa a b<xae n a m b c)
def xam (n:Nat) (a m b:Int) (c:LA):=decide (xae n a m b c<b)
def xah (n:Nat) (a m b:Int) (c:LA):=(xbO n (xab n a m b c) m (xad n a m b c) (xaf n a m b c)).getD []
def xai (n:Nat) (a m b:Int) (c:LA):=(xbO n (xac n a m b c) m (xae n a m b c) (xag n a m b c)).getD []
def xaF (R:Nat->Int->Int->Int->LA->Option (LA)) (n:Nat) (a m b:Int) (c:LA):Option (LA):=R n (xaa a b) (xad n a m b c) b ((R n a (xab n a m b c) (xaa a b) (xah n a m b c)).getD [])
def xaG (R:Nat->Int->Int->Int->LA->Option (LA)) (n:Nat) (a m b:Int) (c:LA):Option (LA):=R n (xaa a b) (xae n a m b c) b ((R n a (xac n a m b c) (xaa a b) (xai n a m b c)).getD [])
def xap {T:Type} (R:Nat->Int->Int->Int->LA->Option (LA)) (n:Nat) (a m b:Int) (c:LA) (δ:T) (κ:LA->T):T:=br (xaj n a m b c) (br (xak n a m b c) (br ((R n (xaa a b) (xad n a m b c) b (xah n a m b c)).isSome) (κ ((R n (xaa a b) (xad n a m b c) b (xah n a m b c)).getD [])) δ) (κ (xah n a m b c))) (κ (xah n a m b c))
def xaq {T:Type} (R:Nat->Int->Int->Int->LA->Option (LA)) (n:Nat) (a m b:Int) (c:LA) (δ:T) (κ:LA->T):T:=br (xal n a m b c) (br (xam n a m b c) (br ((R n (xaa a b) (xae n a m b c) b (xai n a m b c)).isSome) (κ ((R n (xaa a b) (xae n a m b c) b (xai n a m b c)).getD [])) δ) (κ (xai n a m b c))) (κ (xai n a m b c))
def xar {T:Type} (R:Nat->Int->Int->Int->LA->Option (LA)) (n:Nat) (a m b:Int) (c:LA) (δ:T) (κ:LA->T):T:=br (xaj n a m b c) (br (xak n a m b c) (br ((R n (xaa a b) (xad n a m b c) b (xaf n a m b c)).isSome) (κ ((R n (xaa a b) (xad n a m b c) b (xaf n a m b c)).getD [])) δ) (κ (xaf n a m b c))) (κ (xaf n a m b c))
def xan {T:Type} (R:Nat->Int->Int->Int->LA->Option (LA)) (n:Nat) (a m b:Int) (c:LA) (δ:T) (κ:LA->T):T:=br (xav n a m b c) (br (xau n a m b c) (br ((R n a (xab n a m b c) (xaa a b) (xaf n a m b c)).isSome) (br (xaj n a m b c) (br (xak n a m b c) (br ((R n (xaa a b) (xad n a m b c) b ((R n a (xab n a m b c) (xaa a b) (xaf n a m b c)).getD [])).isSome) (κ ((R n (xaa a b) (xad n a m b c) b ((R n a (xab n a m b c) (xaa a b) (xaf n a m b c)).getD [])).getD [])) δ) (κ ((R n a (xab n a m b c) (xaa a b) (xaf n a m b c)).getD []))) (κ ((R n a (xab n a m b c) (xaa a b) (xaf n a m b c)).getD []))) δ) (xar R n a m b c δ κ)) (xar R n a m b c δ κ)
def xas {T:Type} (R:Nat->Int->Int->Int->LA->Option (LA)) (n:Nat) (a m b:Int) (c:LA) (δ:T) (κ:LA->T):T:=br (xal n a m b c) (br (xam n a m b c) (br ((R n (xaa a b) (xae n a m b c) b (xag n a m b c)).isSome) (κ ((R n (xaa a b) (xae n a m b c) b (xag n a m b c)).getD [])) δ) (κ (xag n a m b c))) (κ (xag n a m b c))
def xao {T:Type} (R:Nat->Int->Int->Int->LA->Option (LA)) (n:Nat) (a m b:Int) (c:LA) (δ:T) (κ:LA->T):T:=br (xay n a m b c) (br (xaw n a m b c) (br ((R n a (xac n a m b c) (xaa a b) (xag n a m b c)).isSome) (br (xal n a m b c) (br (xam n a m b c) (br ((R n (xaa a b) (xae n a m b c) b ((R n a (xac n a m b c) (xaa a b) (xag n a m b c)).getD [])).isSome) (κ ((R n (xaa a b) (xae n a m b c) b ((R n a (xac n a m b c) (xaa a b) (xag n a m b c)).getD [])).getD [])) δ) (κ ((R n a (xac n a m b c) (xaa a b) (xag n a m b c)).getD []))) (κ ((R n a (xac n a m b c) (xaa a b) (xag n a m b c)).getD []))) δ) (xas R n a m b c δ κ)) (xas R n a m b c δ κ)
def xaH {T:Type} (R:Nat->Int->Int->Int->LA->Option (LA)) (n:Nat) (a m b:Int) (c:LA) (δ:T) (κ:LA->T):T:=br (i64.wrap (m - a)==1) (br ((Iter (xbu n a) (m,b,c)).isSome) (br ((xaA n a m b c).isSome) (κ ((xaA n a m b c).getD [])) δ) δ) (br (i64.wrap (b - m)==1) (br ((Iter (xbv n m) (a,m,c)).isSome) (br ((xaB n a m c).isSome) (κ ((xaB n a m c).getD [])) δ) δ) (br (decide (m>xaa a b)) (br ((xaC n a m b c).isSome) (br (decide (xab n a m b c<m)) (br (decide (m<xad n a m b c)) (br ((xbO n (xab n a m b c) m (xad n a m b c) (xaf n a m b c)).isSome) (br (xav n a m b c) (br (xau n a m b c) (br ((R n a (xab n a m b c) (xaa a b) (xah n a m b c)).isSome) (br (xaj n a m b c) (br (xak n a m b c) (br ((xaF R n a m b c).isSome) (κ ((xaF R n a m b c).getD [])) δ) (κ ((R n a (xab n a m b c) (xaa a b) (xah n a m b c)).getD []))) (κ ((R n a (xab n a m b c) (xaa a b) (xah n a m b c)).getD []))) δ) (xap R n a m b c δ κ)) (xap R n a m b c δ κ)) δ) (xan R n a m b c δ κ)) (xan R n a m b c δ κ)) δ) (br ((xaE n a m b c).isSome) (br (decide (xac n a m b c<m)) (br (decide (m<xae n a m b c)) (br ((xbO n (xac n a m b c) m (xae n a m b c) (xag n a m b c)).isSome) (br (xay n a m b c) (br (xaw n a m b c) (br ((R n a (xac n a m b c) (xaa a b) (xai n a m b c)).isSome) (br (xal n a m b c) (br (xam n a m b c) (br ((xaG R n a m b c).isSome) (κ ((xaG R n a m b c).getD [])) δ) (κ ((R n a (xac n a m b c) (xaa a b) (xai n a m b c)).getD []))) (κ ((R n a (xac n a m b c) (xaa a b) (xai n a m b c)).getD []))) δ) (xaq R n a m b c δ κ)) (xaq R n a m b c δ κ)) δ) (xao R n a m b c δ κ)) (xao R n a m b c δ κ)) δ)))
def xat (R:Nat->Int->Int->Int->LA->Option (LA)) (n:Nat) (a m b:Int) (c:LA):=xaH R n a m b c none some
theorem xnu (R:Nat->Int->Int->Int->LA->Option (LA)) (n:Nat) (a m b:Int) (xs:LA):Enc (fun (p:LA)=>(((AV.tuple [],([⟨0,2,124,p,false,true⟩]:List Box))):(AV×List Box))) (xat R n a m b xs) (XFM P0 (xaQ R) Tryz.f145 (Tryz.f145.body.getD .skip) [AV.osl (0:Id) 0 0 n,AV.int .i64 a,AV.int .i64 m,AV.int .i64 b,AV.func (111:FuncId) []] [{ ver:=0,sz:=2,ty:=(124:TypeId),xs:=xs,frz:=false,pm:=true }]):=by
 have h:XFM P0 (xaQ R) Tryz.f145 (Tryz.f145.body.getD .skip) [AV.osl (0:Id) 0 0 n,AV.int .i64 a,AV.int .i64 m,AV.int .i64 b,AV.func (111:FuncId) []] [{ ver:=0,sz:=2,ty:=(124:TypeId),xs:=xs,frz:=false,pm:=true }]=xaH R n a m b xs none (fun (p:LA)=>some (((AV.tuple [],([⟨0,2,124,p,false,true⟩]:List Box))):(AV×List Box))):=by kernel_rfl
 rw [h];unfold xat xaH xan xao xap xaq xar xas;repeat' (first|refine Enc.br ?_ ?_|exact Enc.none|exact Enc.some rfl)
def xnt (R:Nat->Int->Int->Int->LA->Option (LA)):LA->List Box->Option (Bool×AV×List Box):=omOf (xGj (sEq (xGu 0 0 0)) (xGj (sEq (pInt .i64)) (xGj (sEq (pInt .i64)) (xGj (sEq (pInt .i64)) (xGj (sEq (xFY (111:FuncId) xGk)) xGl))))) (xGi (xGy 0 2 (124:TypeId) false true xGm) xGk) fun (n,(a,(m,(b,(_,_))))) (c,_)=>((xat R n a m b c).isSome,((AV.tuple [],([⟨0,2,124,((xat R n a m b c).getD []),false,true⟩]:List Box))))
theorem xns (R:Nat->Int->Int->Int->LA->Option (LA)) (f:xd7 R):OmOk P0 xGh 145 (xnt R):=xkM fun g h k j i=>by
 obtain ⟨n,⟨a,⟨m,⟨b,⟨_,_⟩⟩⟩⟩⟩:=g;obtain ⟨l,_⟩:=h;obtain ⟨c,e⟩:=Prod.mk.inj i;refine xfX (p:=(xaQ R).pin) (xhL xFK (xFL P0 _) rfl (xlO R f) rfl Tryz.func145 rfl (by kernel_rfl) (xjT R) ((xnu R _ _ _ _ _ _ (xcl (d:=[]) c)).trans ?_))
 exact congrArg some e
def xaO:Nat->Nat->Int->Int->Int->LA->Option (LA)
 | 0=>fun _ _ _ _ _=>none
 | fu_+1=>fun n a m b c=>xat (xaO fu_) n a m b c
theorem xgB:∀ n,xd7 (xaO n)
 | 0=>xkM fun _ _ _ _ h=>absurd (Prod.mk.inj h).1 Bool.false_ne_true
 | fu_+1=>fun a H r b h=>xns (xaO fu_) (xgB fu_) a H r b h
def xBQ:Env:=xnC.E.withM 145 (xeh (xaO 1000))
theorem xAO:xFB P0 xGh xBQ:=xnC.ok.withM (xgB _)
def xpg:EO:=EO.mk xBQ xAO
def xhP {T:Type} (d:Nat) (n e a b:Int) (c:LA) (δ:T) (κl:(Int×Int×LA)->T) (κr:(Int×LA)->T):T:=br (decide (b<=n)) (br ((xbj d a b c).isSome) (κl (b,i64.wrap (b+e),(xbj d a b c).getD [])) δ) (κr (a,c))
def xbL (e:Nat) (n c:Int):StT (Int×Int×LA) (Int×LA):=fun (a,b,d)=>xhP e n c a b d none inL inR
def xc7:=xpg.l 63 1 [124] [] Tryz.f127 0 lk0 [0,1,2,6,7,8] [0,1,2,6,7] [] (q6 (xGu 0 0 0) qI (xFY 111 xGk) qI qI qI) (q1 (qB 0 2 124 xGm)) (fun (d,n,_,c,a,b,_) (e,_)=>(xbL d n c,(a,b,e),fun p=>(.leaf (.exit 0) [AV.osl 0 0 0 d,AV.int .i64 n,AV.func 111 [],AV.int .i64 c,AV.int .i64 p.1] [bF 0 2 124 p.2]))) (0,[]) fun (d,n,_,c,_,_,_) _ (a,b,e)=>(((d,n,(),c,a,b,()),(e,())),xhP d n c a b e none)
def xhQ {T:Type} (e:Nat) (n c a b:Int) (d:LA) (δ:T) (κl:(Int×Int×LA)->T) (κr:(Int×LA)->T):T:=br (decide (b<=n)) (br ((xaO 1000 e a (i64.wrap (a+c)) b d).isSome) (κl (b,i64.wrap (b+i64.wrap (2*c)),(xaO 1000 e a (i64.wrap (a+c)) b d).getD [])) δ) (κr (a,d))
def xcw (e:Nat) (n c:Int):StT (Int×Int×LA) (Int×LA):=fun (a,b,d)=>xhQ e n c a b d none inL inR
def xde:=xpg.l 63 1 [124] [(2,xc7.lp)] Tryz.f127 2 lk0 [0,1,2,6,7,8] [0,1,2,6,7] [] (q6 (xGu 0 0 0) qI (xFY 111 xGk) qI qI qI) (q1 (qB 0 2 124 xGm)) (fun (d,n,_,c,a,b,_) (e,_)=>(xcw d n c,(a,b,e),fun p=>(.leaf (.exit 4) [AV.osl 0 0 0 d,AV.int .i64 n,AV.func 111 [],AV.int .i64 c,AV.int .i64 p.1] [bF 0 2 124 p.2]))) (0,[]) fun (d,n,_,c,_,_,_) _ (a,b,e)=>(((d,n,(),c,a,b,()),(e,())),xhQ d n c a b e none)
def xdd (c:Nat) (n a:Int) (b:LA):=Iter (xcw c n a) (0,i64.wrap (2*a),b)
def xdc (c:Nat) (n a:Int) (b:LA):=(xdd c n a b).getD (0,[])
def xda (c:Nat) (n a:Int) (b:LA):=(xdc c n a b).fst
def xdb (c:Nat) (n a:Int) (b:LA):=(xdc c n a b).snd
def xc9 (c:Nat) (n a:Int) (b:LA):=i64.wrap (xda c n a b+a)
def xc8 (b:Nat) (n a:Int) (c:LA):=xaO 1000 b (xda b n a c) (xc9 b n a c) n (xdb b n a c)
def xb6 {T:Type} (c:Nat) (n a:Int) (b:LA) (δ:T) (κl:(Int×LA)->T) (κr:(LA)->T):T:=br (decide (a<n)) (br ((xdd c n a b).isSome) (br (decide (xc9 c n a b<n)) (br ((xc8 c n a b).isSome) (κl (i64.wrap (a*2),(xc8 c n a b).getD [])) δ) (κl (i64.wrap (a*2),xdb c n a b))) δ) (κr (b))
def xa0 (c:Nat) (n:Int):StT (Int×LA) (LA):=fun (a,b)=>xb6 c n a b none inL inR
def xht:=xpg.l 63 1 [124] [(2,xc7.lp),(9,xde.lp)] Tryz.f127 1 (lk1 xde.ok) [0,1,2,6] [] [] (q4 (xGu 0 0 0) qI (xFY 111 xGk) qI) (q1 (qB 0 2 124 xGm)) (fun (c,n,_,a,_) (b,_)=>(xa0 c n,(a,b),fun p=>(.leaf (.exit 2) [] [bF 0 2 124 p]))) [] fun (c,n,_,_,_) _ (a,b)=>(((c,n,(),a,()),(b,())),xb6 c n a b none)
def xfn (n:Nat) (k:Int) (a:LA):=(Iter (xbL n k 20) (0,20,a)).getD (0,[])
def xfm (n:Nat) (k:Int) (a:LA):=xbj n (xfn n k a).fst k (xfn n k a).snd
def xfl (n:Nat) (k:Int) (a:LA):=Iter (xa0 n k) (20,(xfm n k a).getD [])
def xfE {T:Type} (n:Nat) (k:Int) (a:LA) (δ:T) (κ:LA->T):T:=br ((Iter (xbL n k 20) (0,20,a)).isSome) (br ((xfm n k a).isSome) (br ((xfl n k a).isSome) (κ ((xfl n k a).getD [])) δ) δ) δ
def xeG (n:Nat) (k:Int) (a:LA):=xfE n k a none some
def xEg:EO:=xpg.fM Tryz.func127 63 1 [124] [(2,xc7.lp),(9,xde.lp),(7,xht.lp)] (lks (lkC xc7.ok (lkC xht.ok (lkC xde.ok lkN)))) (u3 (sEq (xGu 0 0 0)) uI (sEq (xFY (111:FuncId) xGk))) (q1 (qB 0 2 124 xGm)) (fun (n,k,_,_) (a,_) _=>xfE n k a) (fun _ _ p=>(AV.tuple [],([bF 0 2 124 p]:List Box))) []
def xfg {T:Type} (n:Nat) (a:LA) (δ:T) (κ:LA->T):T:=br ((xeG n (↑n:Int) a).isSome) (κ ((xeG n (↑n:Int) a).getD [])) δ
def xfP (n:Nat) (a:LA):=xfg n a none some
def xBR:EO:=xEg.fM Tryz.func110 9 1 [124] [] lk0 (u2 (sEq (xGu 0 0 0)) (sEq (xFY (111:FuncId) xGk))) (q1 (qB 0 2 124 xGm)) (fun (n,_,_) (a,_) _=>xfg n a) (fun _ _ p=>(AV.tuple [],([bF 0 2 124 p]:List Box))) []
def xd1 (b:LA) (c:Int) (a:LA):=a++[AV.agg [AV.list 3 (gC b c 0).toList,AV.list 2 []]]
def xbF (a:Nat):Nat:=0+(↑a:Int).toNat
def xb8 (a:LA) (b:Int):=(xiA (gC a b 0).toList).getD []
def xfF (d:LA) (f:Int) (b:Nat) (e:Int) (c a:LA):=decide (xbF b<(xd1 d e a).length)
def xfG (d:LA) (e:Int) (a:Nat) (f:Int) (b c:LA):=decide ((↑a:Int)<(↑(a+1):Int))
def xa8 (c:LA) (b:Nat) (d:Int) (a:LA):=((xd1 c d a).getD (xbF b) .top).cells
def xfa (a:LA) (b:Int):=decide ((xb8 a b).length<=4611686018427387904)
def xd2 (b:LA) (c:Int) (a:LA):=(xFT (AV.int .i64 0) a (xb8 b c)).toInt
def xfH (c:LA) (b:Nat) (d:Int) (a:LA):=decide (0<=xd2 c d a)&&decide (xd2 c d a<(↑b:Int))
def xaV (c:LA) (b:Nat) (d:Int) (a:LA):=((xa8 c b d a).getD 1 .top).toList.length
def xaR (b:LA) (c:Int) (a:LA):Nat:=0+(xd2 b c a).toNat
def xe9 (a:LA) (d:Nat) (b:Int) (c:LA):=((xa8 a d b c).getD 1 .top).toList++[AV.agg [AV.int .i64 (gC a b 1).toInt,AV.int .i64 (gC a b 2).toInt]]
def xei (c:LA) (b:Nat) (d:Int) (a:LA):=(xd1 c d a).set (xbF b) (AV.agg (List.take 1 (xa8 c b d a)++[AV.int .i64 (↑(xaV c b d a):Int)]++List.drop 2 (xa8 c b d a)))
def xfI (c:LA) (d:Int) (a b:LA):=decide (xaR c d a<b.length)
def xaW (c:LA) (d:Int) (a b:LA):=((b.getD (xaR c d a) .top).cells.getD 1 .top).toList.length
def xe8 (b:LA) (c:Int) (a d:LA):=((d.getD (xaR b c a) .top).cells.getD 1 .top).toList++[AV.agg [AV.int .i64 (gC b c 1).toInt,AV.int .i64 (gC b c 2).toInt]]
def xdk (c:LA) (a:Nat) (d:Int) (b:LA):=((xei c a d b).getD (xbF a) .top).cells
def xej (c:LA) (d:Int) (a b:LA):=b.set (xaR c d a) (AV.agg (List.take 1 (b.getD (xaR c d a) .top).cells++[AV.int .i64 (↑(xaW c d a b):Int)]++List.drop 2 (b.getD (xaR c d a) .top).cells))
def xdl (c:LA) (d:Int) (a b:LA):=((xej c d a b).getD (xaR c d a) .top).cells
def xdO {T:Type} (d:LA) (f:Int) (e:Nat) (c:Int) (b a:LA) (δ:T) (κl:(Nat×Int×LA×LA)->T) (κr:(Nat×LA)->T):T:=br (decide (c<f)) (br (ixI d c) (br (ixT d c 3 [Sh.list 3,Sh.int .i64,Sh.int .i64] 0) (br (!xbs (gC d c 1).toInt (gC d c 2).toInt) (κl (e,i64.wrap (c+1),b,a)) (br ((xiA (gC d c 0).toList).isSome) (br (xfa d c&&xFz (Sh.int .i64) (xFT (AV.int .i64 0) b (xb8 d c))) (br (!xF4 b (xb8 d c)) (br (decide (b.length<4611686018427387904)&&xfa d c) (br (rmB e a 1 48) (br (xfG d f e c b a) (br (xfF d f e c b a&&(xGf 2 ((xa8 d e c a).getD 1 .top)&&(xa8 d e c a).length==2)) (br (xfF d f e c b a&&(xGf 2 ((xa8 d e c a).getD 1 .top)&&((xa8 d e c a).length==2&&(2*xaV d e c a==2*xaV d e c a&&(xaV d e c a==xaV d e c a&&(xaV d e c a==xaV d e c a&&(decide ((xaV d e c a+1)*16<=140737488355328)&&decide (xaV d e c a+1<=4611686018427387904)))))))) (br (xfG d f e c b a) (br (decide (xbF e<(xei d e c a).length)&&((xdk d e c a).length==2&&(xaV d e c a+1==(xe9 d e c a).length&&xGD ((xdk d e c a).getD 1 .top) (xaV d e c a+1)))) (κl (e+1,i64.wrap (c+1),xFR b (xb8 d c) (AV.int .i64 (↑e:Int)),(xei d e c a).set (xbF e) (AV.agg (List.take 1 (xdk d e c a)++[AV.list 2 (xe9 d e c a)]++List.drop 2 (xdk d e c a))))) δ) δ) δ) δ) δ) δ) δ) (br (xfH d e c b) (br (xfI d c b a&&(xGf 2 ((a.getD (xaR d c b) .top).cells.getD 1 .top)&&(a.getD (xaR d c b) .top).cells.length==2)) (br (xfI d c b a&&(xGf 2 ((a.getD (xaR d c b) .top).cells.getD 1 .top)&&((a.getD (xaR d c b) .top).cells.length==2&&(2*xaW d c b a==2*xaW d c b a&&(xaW d c b a==xaW d c b a&&(xaW d c b a==xaW d c b a&&(decide ((xaW d c b a+1)*16<=140737488355328)&&decide (xaW d c b a+1<=4611686018427387904)))))))) (br (xfH d e c b) (br (decide (xaR d c b<(xej d c b a).length)&&((xdl d c b a).length==2&&(xaW d c b a+1==(xe8 d c b a).length&&xGD ((xdl d c b a).getD 1 .top) (xaW d c b a+1)))) (κl (e,i64.wrap (c+1),b,(xej d c b a).set (xaR d c b) (AV.agg (List.take 1 (xdl d c b a)++[AV.list 2 (xe8 d c b a)]++List.drop 2 (xdl d c b a))))) δ) δ) δ) δ) δ)) δ) δ)) δ) δ) (κr (e,a))
def xbA (d:LA) (e:Int):StT (Nat×Int×LA×LA) (Nat×LA):=fun (c,f,a,b)=>xdO d e c f a b none inL inR
def xl2:=xBR.l 60 0 [] [] Tryz.f88 0 lk0 [3,4,11,12,13] [4] [(4,2,240654483580)] (q5 (xGv 0 0 0 0) (xGu 1 0 0) (qL 3) qI qI) (q2 (qB 0 2 1208925819615247717105664 xGm) (qB 0 2 240654483580 xGm)) (fun (_,c,d,e,f,_) (a,b,_)=>(xbA d e,(c,f,a,b),fun p=>(.leaf (.exit 0) [AV.osl 0 0 0 p.1] [bF 0 2 240654483580 p.2]))) (0,[]) fun (_,_,d,e,_,_) _ (c,f,a,b)=>((((),c,d,e,f,()),(a,b,())),xdO d e c f a b none)
def xkn (l:LA):=Iter (xbA l (↑l.length:Int)) (0,0,[],[])
def xkm (l:LA):=(xkn l).getD (0,[])
def xhR (l:LA):=(xkm l).fst
def xkl (l:LA):=(xkm l).snd
def xkk (l:LA):=xfP (xhR l) (xkl l)
def xkj (l:LA):=(xkk l).getD []
def xk5 {T:Type} (l:LA) (δ:T) (κ:LA->T):T:=br ((xkn l).isSome) (br (xF5 2 1 (xkl l)) (br ((xkk l).isSome) (br (decide (0+xhR l<=(xkj l).length)&&true) (κ (List.take (xhR l) (List.drop 0 (xkj l)))) δ) δ) δ) δ
def xh7 (l:LA):=xk5 l none some
def xBS:EO:=xBR.f Tryz.func88 60 0 [] [(4,xl2.lp)] (lk1 xl2.ok) (u1 (uL 3)) (fun (l,_) _=>xk5 l) (fun _ p=>AV.list 2 p) []
end Go.Sim.M
end
