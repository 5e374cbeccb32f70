/- Part 10 of the proof of the law. -/
import Derived.Test.YtnbckejindjgaaaGreatDoorQD9
import Derived.WalkKit
import Derived.BigCall
import Derived.Lib.Strings
import Derived.Lib.Slices
import Derived.Lib.Walk
import Derived.Lib.Builder
import Derived.Lib.UnsafeStr
import Derived.Laws.Externs
import Derived.Laws.IdiomCopy
import Derived.Laws.BitsLemmas
import Derived.RegionTactic
set_option linter.unusedVariables false
set_option linter.unusedSimpArgs false
set_option linter.unnecessarySimpa false
noncomputable section
namespace Go.Proofs
open Go.RowKit Go.Lib
theorem Tryz.lies_builder (n:Nat) (hn:1<=n):liesAt Tryz.prog Tryz.prog.depth 98 n 0 98 1=true:=by
 have hc:Tryz.prog.cellsOf 98=2:=by kernel_rfl
 have hd:Tryz.prog.depth=(2*(Tryz.prog.types.size+Made.depth)+1)+1:=rfl;generalize Tryz.prog=P at *;rw [hd];simp only [liesAt,Bool.or_eq_true];left;rw [hd];simp [rowAt,hc,hn,sameLayout]
set_option maxHeartbeats 2000000 in
set_option maxRecDepth 100000 in
theorem Tryz.copyCheck_used (b:Nat) (w:World) (h0:w.cell? ⟨b,0,none⟩=some (.pointer (some ⟨b,0,none⟩))) :
  Calls Tryz.prog 92 #[.pointer (some ⟨b,0,none⟩)] w fun e w'=>e=.returned (.tuple #[])/\w'=w:=by
 have hsz:(Tryz.prog.info? 98).map (·.size)=some 2:=by kernel_rfl
 obtain ⟨j,hj,_⟩:=Option.map_eq_some_iff.1 hsz;have tp:Tryz.prog.underlying 95=some (.pointer 98):=by kernel_rfl
 go_enter Tryz.func92,Tryz.ntmps92
 go_wp2
 rw [Lib.run_neq_ptr_same w _ tp hj]
 go_wp2
 go_end0
 exact ⟨rfl,rfl⟩
set_option maxHeartbeats 2000000 in
set_option maxRecDepth 100000 in
theorem Tryz.copyCheck_fresh (b n:Nat) (hn:1<=n) (w:World) (h0:w.cell? ⟨b,0,none⟩=some (.pointer none)) (J:w.shape? b=some (98,n*2)) (Q:w.frozen? ⟨b,0,none⟩=false) :
  Calls Tryz.prog 92 #[.pointer (some ⟨b,0,none⟩)] w fun e w'=>e=.returned (.tuple #[])/\w'=w.setCell ⟨b,0,none⟩ (.pointer (some ⟨b,0,none⟩)):=by
 have hsz:(Tryz.prog.info? 98).map (·.size)=some 2:=by kernel_rfl
 obtain ⟨j,hj,O⟩:=Option.map_eq_some_iff.1 hsz;have hc:Tryz.prog.cellsOf 98=2:=by kernel_rfl
 have tp:Tryz.prog.underlying 95=some (.pointer 98):=by kernel_rfl
 have tu:Tryz.prog.underlying 174=some .unsafePointer:=by kernel_rfl
 have q:liesAt Tryz.prog Tryz.prog.depth 98 (n*2 / Tryz.prog.cellsOf 98) 0 98 1=true:=by
  rw [hc,Nat.mul_div_cancel _ (by decide)];exact Tryz.lies_builder n hn
 have c1:=Lib.run_to_unsafe w ⟨b,0,none⟩ tp tu hj (by rw [O];decide) J (show 0<n*2 by omega)
 have c2:=Lib.run_from_unsafe w ⟨b,0,none⟩ tu tp hj J q;clear q
 go_enter Tryz.func92,Tryz.ntmps92
 go_wp2
 rw [run_callFunc_extern Tryz.func123 (by kernel_rfl) (by kernel_rfl) (by kernel_rfl) (e:=Extern.AbiNoEscape.same) (by kernel_rfl)]
 rw [Lib.run_noEscape];simp only [Result.andThen];rw [Oper.upon_value]
 go_wp2
 go_end0
 exact ⟨rfl,rfl⟩
set_option maxHeartbeats 2000000 in
set_option maxRecDepth 100000 in
theorem Tryz.builder_string (b g cap:Nat) (l:List UInt8) (cur:Array Value) (w:World) (hb:w.cell? ⟨b,1,none⟩=some (.slice (some ⟨g,0,none⟩) l.length cap))
  (hg:w.heap[g]?=some (.cells cur 5 (0,0))) (q:∀ j x,l[j]?=some x->w.cell? ((⟨g,0,none⟩:Addr).add j)=some (.int .u8 x.toNat)) (U:l.length<=cur.size) (hcap:cap≠0) (h0:l≠[]) (J:l.length<=9223372036854775807) :
  Calls Tryz.prog 58 #[.pointer (some ⟨b,0,none⟩)] w fun e w'=>e=.returned (.string ⟨l.toArray⟩)/\w'=w.drew.freeze ⟨g,0,none⟩ l.length:=by
 have c1:w.drew.cell? ⟨b,1,none⟩=some (.slice (some ⟨g,0,none⟩) l.length cap):=hb;have Q:Tryz.prog.underlying 131=some (.pointer 5):=by kernel_rfl
 have O:Tryz.prog.cellsOf 5=1:=by kernel_rfl
 have W:(Builtin.unsafeSliceData_ #[96] 131 #[.slice (some ⟨g,0,none⟩) l.length cap]).run Tryz.prog w.drew=.ok (.pointer (some ⟨g,0,none⟩)) w.drew :=
  Lib.run_unsafeSliceData_row _ _ _ _ _ _ hcap
 have V:(Builtin.unsafeString_ #[131,3] 9 #[.pointer (some ⟨g,0,none⟩),.int .i64 l.length]).run Tryz.prog w.drew=.ok (.string ⟨l.toArray⟩) (w.drew.freeze ⟨g,0,none⟩ l.length) :=
  Lib.run_unsafeString_row w.drew 131 3 9 5 Q O g cur.size (by have hg':w.drew.heap[g]?=some (.cells cur 5 (0,0)):=hg;simp [World.shape?,hg']) l h0 U J q
 clear q
 go_enter Tryz.func58,Tryz.ntmps58
 go_wp2
 go_region
 all_goals (go_wp2;go_ret;exact ⟨rfl,rfl⟩)
set_option maxHeartbeats 2000000 in
set_option maxRecDepth 100000 in
theorem Tryz.builder_string_nil (b:Nat) (w:World) (hb:w.cell? ⟨b,1,none⟩=some (.slice none 0 0)) :
  Calls Tryz.prog 58 #[.pointer (some ⟨b,0,none⟩)] w fun e w'=>e=.returned (.string ⟨#[]⟩)/\w'=w.drew:=by
 have c1:w.drew.cell? ⟨b,1,none⟩=some (.slice none 0 0):=hb;have J:(Builtin.unsafeSliceData_ #[96] 131 #[.slice none 0 0]).run Tryz.prog w.drew=.ok (.pointer none) w.drew:=rfl;have q:=Lib.run_unsafeString_none (P:=Tryz.prog) w.drew 131 3 9 none
 go_enter Tryz.func58,Tryz.ntmps58
 go_wp2
 go_region
 all_goals (go_wp2;go_ret;exact ⟨rfl,rfl⟩)
end Go.Proofs
end
noncomputable section
namespace Go.Sim
open Go.RowKit Go.Proofs
def M.isByte:AV->Bool
 | .int .u8 n=>decide (0<=n)&&decide (n<256)
 | _=>false
def M.isBytes (xs:List AV):Bool:=xs.all M.isByte
def M.strOf (xs:List AV):List UInt8:=xs.map fun x=>UInt8.ofNat x.toInt.toNat
theorem xBU (s:List UInt8):M.strOf (M.byteAVs s)=s:=by
 unfold M.strOf M.byteAVs;rw [List.map_map]
 conv=>rhs;rw [<-List.map_id s]
 exact List.map_congr_left fun u _=>by simp [AV.toInt]
theorem xzf (s:List UInt8):M.isBytes (M.byteAVs s)=true:=by
 unfold M.isBytes M.byteAVs;rw [zI];intro x hx;obtain ⟨u,_,rfl⟩:=zK.1 hx;have:=u.toNat_lt;simp only [M.isByte,zf,zl];omega
theorem xue (s t:List UInt8):M.byteAVs (s++t)=M.byteAVs s++M.byteAVs t:=by simp [M.byteAVs]
theorem xli (s:List UInt8):(M.byteAVs s).length=s.length:=by simp [M.byteAVs]
theorem xFu {x:AV} (h:M.isByte x=true):∃ u:UInt8,x=.int .u8 u.toNat:=by
 unfold M.isByte at h;split at h
 . rename_i n;simp only [zf,zl] at h;refine ⟨UInt8.ofNat n.toNat,?_⟩;have:(UInt8.ofNat n.toNat).toNat=n.toNat:=by rw [UInt8.toNat_ofNat',Nat.mod_eq_of_lt (by omega)]
   rw [this];congr 1;omega
 . simp at h
theorem xCy (w:World) (g n k:Nat) (h:k≠g):(w.freeze ⟨g,0,none⟩ n).heap[k]?=w.heap[k]?:=by
 unfold World.freeze;split
 . rfl
 . simp [Array.getElem?_modify,Ne.symm h]
theorem xDT (w:World) (g n:Nat):(w.freeze ⟨g,0,none⟩ n).heap.size=w.heap.size:=by
 unfold World.freeze;split
 . rfl
 . simp
theorem xG4 {w w':World} {A:Nat->Prop} {M:Id->Option MB} {B:Nat} {H:List Box} (hR:HR w A M B H) {id:Nat} {m:MB} {bx:Box} (q:0<m.cap) (hm:M (.b id)=some m) (hb:H[id]?=some bx) (Z:isC bx.ty=false) (W:bx.frz=false) (U:BoxAt w A M B (.b id) m bx) (v:Nat) (hv:m.ver<v) (sz:Nat) (ty:TypeId) (Q:isC ty=false)
  (hs:w'.heap.size=w.heap.size) (hw:∀ b,b≠m.b->w'.heap[b]?=w.heap[b]?) :
  HR w' A (MSet M (.b id) ⟨m.b,v,sz,0,ty⟩) B (H.set id ⟨v,sz,ty,[],false,true⟩)/\Mv w A M w' A (MSet M (.b id) ⟨m.b,v,sz,0,ty⟩):=by
 have aa:A m.b:=(U.guard q).1 W;have O:MExt M (MSet M (.b id) ⟨m.b,v,sz,0,ty⟩):=xpj hm (.inr hv);have hw':∀ b,b<w.heap.size->¬ A b->w'.heap[b]?=w.heap[b]?:=fun b _ hA=>hw b fun e=>hA (e▸aa)
 have hc:∀ {p:Prop},0<(0:Nat)->p:=fun h=>absurd h (by omega)
 have J:∀ i m1,MSet M (.b id) ⟨m.b,v,sz,0,ty⟩ i=some m1->0<m1.cap->i≠.b id/\M i=some m1:=fun i m1 h1 h0=>by
  by_cases hi:i=.b id
  . subst hi;simp [MSet] at h1;subst h1;exact absurd h0 (by simp)
  . exact ⟨hi,by simpa [MSet,hi] using h1⟩
 refine ⟨⟨fun i m1 h1=>?_,fun i i' m1 m2 h1 h2 c1 c2 he=>hR.inj i i' m1 m2 (J i m1 h1 c1).2 (J i' m2 h2 c2).2 c1 c2 he,fun b hb=>by rw [hs];exact hR.lt b hb⟩,⟨by omega,hw',fun _ _ h=>h,fun _ _ h _=>h,O,⟨fun b _ hb=>hw b fun e=>hb (.b id) m hm q e.symm,fun i m1 h1 h0=>.inl ⟨i,m1,(J i m1 h1 h0).2,h0,rfl⟩⟩⟩⟩
 by_cases hi:i=.b id
 . subst hi;have:m1=⟨m.b,v,sz,0,ty⟩:=by simp [MSet] at h1;exact h1.symm
   subst this;exact ⟨⟨v,sz,ty,[],false,true⟩,by rw [xaT,zL (xbO hb)],rfl,rfl,xaH Q,zQ _,zQ _,fun x hx=>by simp at hx,hc,hc,hc,hc⟩
 . have V:M i=some m1:=by simpa [MSet,hi] using h1
   obtain ⟨Y,g1,g2⟩:=hR.box i m1 V;exact ⟨Y,by rw [xbT hb Z Q hi];exact g1,g2.mono (fun h0=>hw _ fun e=>hi (hR.inj i (.b id) m1 m V hm h0 q e)) hw' (by omega) (fun _ _ h=>h) g2.guard O⟩
theorem xqb {w:World} {A:Nat->Prop} {M:Id->Option MB} {B:Nat} {H:List Box} (hR:HR w A M B H) {v:Value} {a x:AV} {ty:TypeId} {frz pm:Bool} (J:isC ty=false) (hv:Rel w A M v (.own (.b 0) 0 0 0)) (hb:H[0]?=some ⟨0,2,ty,[.agg [a,x]],frz,pm⟩) :
  ∃ m c,M (.b 0)=some m/\BoxAt w A M B (.b 0) m ⟨0,2,ty,[.agg [a,x]],frz,pm⟩/\1<=m.cap/\v=.pointer (some ⟨m.b,0,none⟩)/\w.heap[m.b]?=some (.cells c ty (0,0))/\c.size=m.cap*2/\m.sz=2 /\
   Rel w A (MP M pm) (c.getD 0 undef) a/\Rel w A (MP M pm) (c.getD 1 undef) x/\w.cell? ⟨m.b,0,none⟩=some (c.getD 0 undef)/\w.cell? ⟨m.b,1,none⟩=some (c.getD 1 undef):=by
 obtain ⟨m,hm,q,hp⟩:=xn0 hR hv (xnW hb J);have hcap:1<=m.cap:=q.fits;have hsz:m.sz=2:=q.sz.symm;obtain ⟨c,h1,h2,h3⟩:=q.plainCells J (by omega)
 rw [hsz] at h2;have r0:=h3 0 0 (by simp) (by omega)
 have r1:=h3 0 1 (by simp) (by omega)
 have h1:w.heap[m.b]?=some (.cells c ty (0,0)):=h1;have e0:w.cell? ⟨m.b,0,none⟩=some (c.getD 0 undef):=by
  have:0<c.size:=by omega
  simp [World.cell?,h1,this]
 have e1:w.cell? ⟨m.b,1,none⟩=some (c.getD 1 undef):=by
  have:1<c.size:=by omega
  simp [World.cell?,h1,this]
 refine ⟨m,c,hm,q,hcap,by simpa using hp,h1,h2,hsz,by simpa [AV.cells] using r0,by simpa [AV.cells] using r1,e0,e1⟩
def xtB:List AV->List Box->Option (Bool×AV×List Box)
 | [.own (.b 0) 0 0 0],⟨0,2,ty,[.agg [.nilptr,x]],false,pm⟩::r=>match Nat.beq ty 98 with
  | true=>some (true,.tuple [],⟨0,2,ty,[.agg [.own (.b 0) 0 0 0,x]],false,false⟩::r)
  | false=>none
 | [.own (.b 0) 0 0 0],⟨0,2,ty,[.agg [.own (.b 0) 0 0 0,x]],false,pm⟩::r=>match Nat.beq ty 98 with
  | true=>some (true,.tuple [],⟨0,2,ty,[.agg [.own (.b 0) 0 0 0,x]],false,pm⟩::r)
  | false=>none
 | _,_=>none
theorem xDN:OmOk Tryz.prog xNs 92 xtB:=fun xs H r H' h=>by
 unfold xtB at h;split at h
 . rename_i ty x pm rest;split at h
   case h_2=>simp at h
   rename_i J;have J:=zg J;subst J;simp only [z6,zb,true_and] at h;obtain ⟨rfl,rfl⟩:=h;refine ⟨xd9 Tryz.func92 rfl (by kernel_rfl),fun w0 w A M vs hI hB hR Q=>?_⟩
   obtain ⟨v,rfl,hv⟩:=rc1 Q;obtain ⟨m,c,hm,q,hcap,rfl,hh,O,hsz,r0,r1,e0,e1⟩:=xqb hR (by rfl) hv rfl
   have hn:c.getD 0 undef=.pointer none:=by
    revert r0;generalize c.getD 0 undef=z;intro r0;cases r0;rfl
   rw [hn] at e0;refine (Tryz.copyCheck_fresh m.b m.cap hcap w e0 (by simp [World.shape?,hh,O]) (Lib.frozen_of_heap hh 0)).mono ?_
   rintro e w' ⟨rfl,rfl⟩;rw [setCell_eq_setRow w m.b 0 c _ _ _ hh];have W:x.one=true:=by
    have:=q.ok (.agg [.nilptr,x]) (by simp)
    simp only [AV.okElem,AV.cells,List.all_cons,zf] at this;exact this.2.2.1
   have V:(0:Nat)=m.ver:=q.ver;obtain ⟨g1,g2,g3,g4,gt,g5⟩:=xo2 (m':=m) (bx':=⟨0,2,98,[.agg [.own (.b 0) 0 0 0,x]],false,false⟩) hR (by omega) hm rfl q rfl rfl rfl (c':=c.setIfInBounds 0 (.pointer (some ⟨m.b,0,none⟩))) rfl rfl rfl rfl (.inl rfl)
    V (by rw [hsz]) (by have:=q.ty;rw [xaH rfl] at this;exact this) rfl hcap (fun y hy=>by
     simp only [zv] at hy;subst hy;rw [hsz];simp [AV.okElem,AV.cells,W,show (AV.own (.b 0) 0 0 0).one=true from rfl]) (by rw [hsz];simpa using O) (fun i j hi hj=>by
     have Y:i=0:=by simpa using hi
     subst Y;rw [hsz] at hj |-;have Z:0<c.size:=by omega
     have ab:1<c.size:=by omega
     match j,hj with
     | 0,_ =>
      have:(c.setIfInBounds 0 (.pointer (some ⟨m.b,0,none⟩))).getD (0*2+0) undef=.pointer (some ⟨m.b,0,none⟩):=by simp [Z]
      rw [this];exact .own _ (.b 0) 0 0 0 m hm (by omega) rfl (fun _=>by rw [xmd (q.nomap rfl)];simp)
     | 1,_ =>
      have:(c.setIfInBounds 0 (.pointer (some ⟨m.b,0,none⟩))).getD (0*2+1) undef=c.getD 1 undef:=by simp [Array.getElem?_setIfInBounds]
      rw [this];exact r1.unmp)
   exact ⟨_,A,_,rfl,hB.trans g4,fun _ _=>Iff.rfl,Ev.refl.step ⟨by simp [World.setRow],g3,fun _ _ h=>h,fun _ _ h _=>h,g2,gt⟩,by simpa using g1,.tuple #[] [] rfl (by simp)⟩
 . rename_i ty x pm rest;split at h
   case h_2=>simp at h
   rename_i J;have J:=zg J;subst J;simp only [z6,zb,true_and] at h;obtain ⟨rfl,rfl⟩:=h;refine ⟨xd9 Tryz.func92 rfl (by kernel_rfl),fun w0 w A M vs hI hB hR Q=>?_⟩
   obtain ⟨v,rfl,hv⟩:=rc1 Q;obtain ⟨m,c,hm,q,hcap,rfl,hh,O,hsz,r0,r1,e0,e1⟩:=xqb hR (by rfl) hv rfl
   obtain ⟨m',U,aa,hp⟩:=xn0 hR r0.unmp (xnW (n:=0) (bx:=⟨0,2,98,[.agg [.own (.b 0) 0 0 0,x]],false,pm⟩) rfl rfl);rw [hm] at U;obtain rfl:=(z6 _ _).mp U;rw [hp] at e0;refine (Tryz.copyCheck_used m.b w (by simpa using e0)).mono ?_
   rintro e w' ⟨rfl,rfl⟩;exact ⟨_,A,M,rfl,hB,fun _ _=>Iff.rfl,Ev.refl,hR,.tuple #[] [] rfl (by simp)⟩
 . simp at h
def xmH:List AV->List Box->Option (Bool×AV×List Box)
 | [.own (.b 0) 0 0 0],[⟨0,2,ty,[.agg [a,.osl (.b 1) u 0 n]],false,pm⟩,⟨u',1,ty',bs,false,pm'⟩]=>match Nat.beq ty 98&&(Nat.beq ty' 5&&Nat.beq u u') with
  | true=>some ((decide (n=bs.length)&&M.isBytes bs)&&decide (bs.length≠0),.str (M.strOf bs),[⟨0,2,ty,[.agg [a,.osl (.b 1) u 0 n]],false,pm⟩,⟨u+1,1,ty',[],false,true⟩])
  | false=>none
 | [.own (.b 0) 0 0 0],⟨0,2,ty,[.agg [a,.nils]],false,pm⟩::r=>match Nat.beq ty 98 with
  | true=>some (true,.str [],⟨0,2,ty,[.agg [a,.nils]],false,pm⟩::r)
  | false=>none
 | _,_=>none
theorem xyi:OmOk Tryz.prog xNs 58 xmH:=fun xs H r H' h=>by
 unfold xmH at h;split at h
 . rename_i ty a u n pm u' al bs ag;split at h
   case h_2=>simp at h
   rename_i O;simp only [zf] at O;obtain ⟨h1,h2,h3⟩:=O;have h1:=zg h1;have h2:=zg h2;have h3:=zg h3;subst h1 h2 h3;simp only [z6,zb,zf,zl] at h;obtain ⟨⟨⟨rfl,ah⟩,hne⟩,rfl,rfl⟩:=h;refine ⟨xd9 Tryz.func58 rfl (by kernel_rfl),fun w0 w A MM vs hI hB hR U=>?_⟩
   obtain ⟨v,rfl,hv⟩:=rc1 U;obtain ⟨m,c,hm,Y,hcap,rfl,hh,ae,hsz,r0,r1,e0,e1⟩:=xqb hR (by rfl) hv rfl
   obtain ⟨m1,a1,af,q,aj,ad,ab⟩:=xjy hR r1.unmp (xnW (n:=1) (bx:=⟨u,1,5,bs,false,ag⟩) rfl rfl);have J:0<m1.cap:=by have:=q.fits;simp only at this;omega
   have ha:=ab J;subst ha;obtain ⟨c1,k1,k2,k3⟩:=q.plainCells rfl J;have Q:m1.sz=1:=q.sz.symm;have ai:5=m1.ty:=by have:=q.ty;rw [xaH rfl] at this;exact this
   rw [ad] at e1;simp only [Nat.zero_mul,Nat.sub_zero] at e1;have hl:(M.strOf bs).length=bs.length:=by simp [M.strOf]
   have V:∀ j,j<bs.length->∃ uu:UInt8,bs.getD j .top=.int .u8 uu.toNat/\(M.strOf bs)[j]?=some uu/\w.cell? ⟨m1.b,j,none⟩=some (.int .u8 uu.toNat):=fun j hj=>by
    have ac:bs.getD j .top∈bs:=xau hj;obtain ⟨uu,hu⟩:=xFu (zI.1 ah _ ac);refine ⟨uu,hu,?_,?_⟩
    . have:bs[j]?=some (bs.getD j .top):=xui hj;simp only [M.strOf,List.getElem?_map,this,hu,Option.map_some,AV.toInt,zN,UInt8.ofNat_toNat]
    . have hr:=k3 j 0 hj (by omega)
      rw [Q,hu] at hr;simp only [Nat.mul_one,Nat.add_zero,AV.cells,List.getD_cons_zero] at hr;have:=hr.int_inv;have Z:j<c1.size:=by have:=q.fits;simp only at this;rw [k2,Q];omega
      simp only [World.cell?,k1];have e2:c1.getD j undef=c1[j]:=by simp [Z]
      rw [e2] at this;simp [Z,this]
   refine (Tryz.builder_string m.b m1.b m1.cap (M.strOf bs) c1 w (by rw [hl];exact e1) k1 (fun j x hx=>by
    have hj:j<bs.length:=by
     rcases zJ j bs.length with h'|h'
     . exact h'
     . rw [zz (by omega)] at hx;simp at hx
    obtain ⟨uu,g1,g2,g3⟩:=V j hj;rw [g2] at hx;obtain rfl:=(z6 _ _).mp hx;by_cases aa:j=0
    . subst aa;simpa [Addr.add] using g3
    . simpa [Addr.add,aa] using g3) (by rw [hl,k2,Q];have:=q.fits;simp only at this;omega) (by omega) (fun e=>hne (by rw [<-hl,e];rfl)) (by rw [hl];have h1:=q.fits;have h2:=q.capm;simp only at h1;unfold maxLen at h2;omega)).mono ?_
   rintro e w' ⟨rfl,rfl⟩;rw [hl];have W:=q.low J;obtain ⟨g1,g2⟩:=xG4 hR J af rfl rfl rfl q (u+1) (by have:=q.ver;simp only at this;omega) 1 5 rfl (w':=w.drew.freeze ⟨m1.b,0,none⟩ bs.length) (by rw [xDT];rfl) (fun b hb=>by rw [xCy _ _ _ _ hb];rfl)
   exact ⟨_,A,_,rfl,Lib.below_freeze (hB.drew) (p:=⟨m1.b,0,none⟩) W _,fun _ _=>Iff.rfl,Ev.refl.step g2,by simpa using g1,.str _⟩
 . rename_i ty a pm rest ak;split at h
   case h_2=>simp at h
   rename_i O;have O:=zg O;subst O;simp only [z6,zb,true_and] at h;obtain ⟨rfl,rfl⟩:=h;refine ⟨xd9 Tryz.func58 rfl (by kernel_rfl),fun w0 w A MM vs hI hB hR U=>?_⟩
   obtain ⟨v,rfl,hv⟩:=rc1 U;obtain ⟨m,c,hm,Y,hcap,rfl,hh,ae,hsz,r0,r1,e0,e1⟩:=xqb hR (by rfl) hv rfl
   have hn:c.getD 1 undef=.slice none 0 0:=by
    revert r1;generalize c.getD 1 undef=z;intro r1;cases r1;rfl
   rw [hn] at e1;refine (Tryz.builder_string_nil m.b w e1).mono ?_;rintro e w' ⟨rfl,rfl⟩;exact ⟨_,A,MM,rfl,hB.drew,fun _ _=>Iff.rfl,Ev.refl.step ⟨zd _,fun _ _ _=>rfl,fun _ _ h=>h,fun _ _ h _=>h,MExt.refl MM,⟨fun _ _ _=>rfl,fun i m1 h1 h0=>.inl ⟨i,m1,h1,h0,rfl⟩⟩⟩,hR.drew,.str _⟩
 . simp at h
end Go.Sim
end
noncomputable section
namespace Go.Sim
open Go.RowKit
variable {α β γ : Type}
structure Pat (α β:Type) where
 enc:β->α
 dec:α->Option β
 ok:∀ a b,dec a=some b->a=enc b
def xNy:Pat α α:=⟨fun b=>b,some,fun a b h=>by simpa using h⟩
def pInt (k:IntKind):Pat AV Int:=⟨.int k,fun v=>match v with
 | .int k' n=>match decide (k'=k) with
  | true=>some n
  | false=>none
 | _=>none,fun v n h=>by
 split at h
 . split at h
   . rename_i hk;simp only [z6] at h;rw [of_decide_eq_true hk,h]
   . simp at h
 . simp at h⟩
def pStr:Pat AV (List UInt8):=⟨.str,fun v=>match v with
 | .str s=>some s
 | _=>none,fun v n h=>by
 split at h
 . simp only [z6] at h;rw [h]
 . simp at h⟩
def pBool:Pat AV Bool:=⟨.bool,fun v=>match v with
 | .bool s=>some s
 | _=>none,fun v n h=>by
 split at h
 . simp only [z6] at h;rw [h]
 . simp at h⟩
def xNM (sz:Nat) (q:Pat (List AV) β):Pat AV β:=⟨fun b=>.list sz (q.enc b),fun v=>match v with
 | .list z xs=>match Nat.beq z sz with
  | true=>q.dec xs
  | false=>none
 | _=>none,fun v n h=>by
 split at h
 . split at h
   . rename_i hz;rw [zg hz,q.ok _ _ h]
   . simp at h
 . simp at h⟩
def xNG (id ver off:Nat):Pat AV Nat:=⟨.osl id ver off,fun v=>match v with
 | .osl (.b i) e o n=>match Nat.beq i id&&(Nat.beq e ver&&Nat.beq o off) with
  | true=>some n
  | false=>none
 | _=>none,fun v n h=>by
 split at h
 . split at h
   . rename_i hz;simp only [zf] at hz;simp only [z6] at h;rw [zg hz.1,zg hz.2.1,zg hz.2.2,h]
   . simp at h
 . simp at h⟩
def pOslV (id off:Nat):Pat AV (Nat×Nat):=⟨fun p=>.osl id p.1 off p.2,fun v=>match v with
 | .osl (.b i) e o n=>match Nat.beq i id&&Nat.beq o off with
  | true=>some (e,n)
  | false=>none
 | _=>none,fun v n h=>by
 split at h
 . split at h
   . rename_i hz;simp only [zf] at hz;simp only [z6] at h;rw [zg hz.1,zg hz.2,<-h]
   . simp at h
 . simp at h⟩
def pOwnV (id j:Nat):Pat AV (Nat×Nat):=⟨fun p=>.own id p.1 p.2 j,fun v=>match v with
 | .own (.b a) b c d=>match Nat.beq a id&&Nat.beq d j with
  | true=>some (b,c)
  | false=>none
 | _=>none,fun v n h=>by
 split at h
 . split at h
   . rename_i hz;simp only [zf] at hz;simp only [z6] at h;rw [zg hz.1,zg hz.2,<-h]
   . simp at h
 . simp at h⟩
def xNH (id ver i j:Nat):Pat AV Unit:=⟨fun _=>.own id ver i j,fun v=>match v with
 | .own (.b a) b c d=>match Nat.beq a id&&(Nat.beq b ver&&(Nat.beq c i&&Nat.beq d j)) with
  | true=>some ()
  | false=>none
 | _=>none,fun v n h=>by
 split at h
 . split at h
   . rename_i hz;simp only [zf] at hz;rw [zg hz.1,zg hz.2.1,zg hz.2.2.1,zg hz.2.2.2]
   . simp at h
 . simp at h⟩
def xNN (sz i j:Nat) (q:Pat (List AV) β):Pat AV β:=⟨fun b=>.eptr sz (q.enc b) i j,fun v=>match v with
 | .eptr a xs c d=>match Nat.beq a sz&&(Nat.beq c i&&Nat.beq d j) with
  | true=>q.dec xs
  | false=>none
 | _=>none,fun v n h=>by
 split at h
 . split at h
   . rename_i hz;simp only [zf] at hz;rw [zg hz.1,zg hz.2.1,zg hz.2.2,q.ok _ _ h]
   . simp at h
 . simp at h⟩
def xNI (q:Pat (List AV) β):Pat AV β:=⟨fun b=>.agg (q.enc b),fun v=>match v with
 | .agg cs=>q.dec cs
 | _=>none,fun v n h=>by
 split at h
 . rw [q.ok _ _ h]
 . simp at h⟩
def xM8 (f:Nat) (q:Pat (List AV) β):Pat AV β:=⟨fun b=>.func f (q.enc b),fun v=>match v with
 | .func g cs=>match Nat.beq g f with
  | true=>q.dec cs
  | false=>none
 | _=>none,fun v n h=>by
 split at h
 . split at h
   . rename_i hz;rw [zg hz,q.ok _ _ h]
   . simp at h
 . simp at h⟩
def pNils:Pat AV Unit:=⟨fun _=>.nils,fun v=>match v with
 | .nils=>some ()
 | _=>none,fun v n h=>by
 split at h
 . rfl
 . simp at h⟩
def pNilptr:Pat AV Unit:=⟨fun _=>.nilptr,fun v=>match v with
 | .nilptr=>some ()
 | _=>none,fun v n h=>by
 split at h
 . rfl
 . simp at h⟩
def xNv:Pat (List α) Unit:=⟨fun _=>[],fun v=>match v with
 | []=>some ()
 | _=>none,fun v n h=>by
 split at h
 . rfl
 . simp at h⟩
def xNt (p:Pat α β) (q:Pat (List α) γ):Pat (List α) (β×γ):=⟨fun b=>p.enc b.1::q.enc b.2,fun v=>match v with
 | x::t=>match p.dec x with
  | some b=>match q.dec t with
   | some c=>some (b,c)
   | none=>none
  | none=>none
 | _=>none,fun v n h=>by
 split at h
 . split at h
   . rename_i hp;split at h
     . rename_i hq;cases h;rw [p.ok _ _ hp,q.ok _ _ hq]
     . simp at h
   . simp at h
 . simp at h⟩
def xNJ (ver sz ty:Nat) (frz pm:Bool) (q:Pat (List AV) β):Pat Box β:=⟨fun b=>⟨ver,sz,ty,q.enc b,frz,pm⟩,fun v=>match v with
 | ⟨a,b,c,xs,f,p⟩=>match Nat.beq a ver&&(Nat.beq b sz&&(Nat.beq c ty&&((f==frz)&&(p==pm)))) with
  | true=>q.dec xs
  | false=>none,fun v n h=>by
 obtain ⟨a,b,c,xs,f,p⟩:=v;dsimp only at h;split at h
 . rename_i hz;simp only [zf,beq_iff_eq] at hz;rw [zg hz.1,zg hz.2.1,zg hz.2.2.1,hz.2.2.2.1,hz.2.2.2.2,q.ok _ _ h]
 . simp at h⟩
def pBoxV (sz ty:Nat) (frz pm:Bool) (q:Pat (List AV) β):Pat Box (Nat×β):=⟨fun b=>⟨b.1,sz,ty,q.enc b.2,frz,pm⟩,fun v=>match v with
 | ⟨a,b,c,xs,f,p⟩=>match Nat.beq b sz&&(Nat.beq c ty&&((f==frz)&&(p==pm))) with
  | true=>match q.dec xs with
   | some y=>some (a,y)
   | none=>none
  | false=>none,fun v n h=>by
 obtain ⟨a,b,c,xs,f,p⟩:=v;dsimp only at h;split at h
 . rename_i hz;simp only [zf,beq_iff_eq] at hz;split at h
   . rename_i y hy;simp only [z6] at h;rw [zg hz.1,zg hz.2.1,hz.2.2.1,hz.2.2.2,<-h,q.ok _ _ hy]
   . simp at h
 . simp at h⟩
def Sub (a b:AV):Prop:=∀ (w:World) (A:Nat->Prop) (M:Id->Option MB) (v:Value),Rel w A M v a->Rel w A M v b
def SubL (aS bs:List AV):Prop:=aS.length=bs.length/\∀ i,i<aS.length->Sub (aS.getD i .top) (bs.getD i .top)
theorem Sub.refl (a:AV):Sub a a:=fun _ _ _ _ h=>h
theorem Sub.of_eq {a b:AV} (h:a=b):Sub a b:=h▸Sub.refl a
theorem xyT (sz:Nat):Sub .nils (.list sz []):=fun w A M v h=>by
 cases h;exact .list0 _ _ _
theorem xKg {aS bs:List AV} (h:SubL aS bs):Sub (.agg aS) (.agg bs):=fun w A M v hr=>by
 obtain ⟨vs,rfl,h1,h2⟩:=hr.agg_inv;exact .agg vs bs (h1.trans h.1) fun i hi=>h.2 i (h.1.symm▸hi) w A M _ (h2 i (h.1.symm▸hi))
theorem xHA {w:World} {A:Nat->Prop} {M:Id->Option MB} {vs:List Value} {aS bs:List AV} (h:SubL aS bs) (hr:RC w A M vs aS):RC w A M vs bs :=
 ⟨hr.1.trans h.1,fun i hi=>h.2 i (h.1.symm▸hi) w A M _ (hr.2 i (h.1.symm▸hi))⟩
structure SPat (β:Type) where
 enc:β->AV
 dec:AV->Option β
 ok:∀ a b,dec a=some b->Sub a (enc b)
structure SPatL (β:Type) where
 enc:β->List AV
 dec:List AV->Option β
 ok:∀ a b,dec a=some b->SubL a (enc b)
def sEq (p:Pat AV β):SPat β:=⟨p.enc,p.dec,fun a b h=>Sub.of_eq (p.ok a b h)⟩
def xNK (sz:Nat) (q:Pat (List AV) β):SPat β:=⟨fun b=>.list sz (q.enc b),fun v=>match v with
 | .nils=>q.dec []
 | .list z xs=>match Nat.beq z sz with
  | true=>q.dec xs
  | false=>none
 | _=>none,fun v n h=>by
 split at h
 . rw [<-q.ok _ _ h];exact xyT sz
 . split at h
   . rename_i hz;rw [zg hz,q.ok _ _ h];exact Sub.refl _
   . simp at h
 . simp at h⟩
def xNL (q:SPatL β):SPat β:=⟨fun b=>.agg (q.enc b),fun v=>match v with
 | .agg cs=>q.dec cs
 | _=>none,fun v n h=>by
 split at h
 . exact xKg (q.ok _ _ h)
 . simp at h⟩
def xNw:SPatL Unit:=⟨fun _=>[],fun v=>match v with
 | []=>some ()
 | _=>none,fun v n h=>by
 split at h
 . exact ⟨rfl,fun i hi=>by simp at hi⟩
 . simp at h⟩
def xNu (p:SPat β) (q:SPatL γ):SPatL (β×γ):=⟨fun b=>p.enc b.1::q.enc b.2,fun v=>match v with
 | x::t=>match p.dec x with
  | some b=>match q.dec t with
   | some c=>some (b,c)
   | none=>none
  | none=>none
 | _=>none,fun v n h=>by
 split at h
 . split at h
   . rename_i hp;split at h
     . rename_i hq;cases h;obtain ⟨h1,h2⟩:=q.ok _ _ hq;refine ⟨by simp [h1],fun i hi=>?_⟩
       cases i with
       | zero=>exact p.ok _ _ hp
       | succ i=>exact h2 i (by simpa using hi)
     . simp at h
   . simp at h
 . simp at h⟩
def ocOf (pv:SPatL β) (g:β->Bool×AV):List AV->Option (Bool×AV):=fun xs=>match pv.dec xs with
 | some b=>some (g b)
 | none=>none
def omOf (pv:SPatL β) (pb:Pat (List Box) γ) (g:β->γ->Bool×AV×List Box):List AV->List Box->Option (Bool×AV×List Box):=fun xs H=>match pv.dec xs with
 | some b=>match pb.dec H with
  | some c=>some (g b c)
  | none=>none
 | none=>none
def lpOf (live liveO:List Nat) (conv:List (Nat×Nat×TypeId)) (pv:Pat (List AV) β) (pb:Pat (List Box) γ) (g:β->γ->Bool×LR):Lp:=⟨live,liveO,conv,fun xs H=>match pv.dec xs with
 | some b=>match pb.dec H with
  | some c=>some (g b c)
  | none=>none
 | none=>none⟩
section
variable {P : Program} {Inv : IV}
theorem xnl {n:FuncId} {pv:SPatL β} {g:β->Bool×AV} (h:∀ b r,g b=(true,r)->Good P Inv n (pv.enc b) r):OcOk P Inv n (ocOf pv g):=fun xs r e=>by
 unfold ocOf at e;split at e
 . rename_i b hb;simp only [z6] at e;obtain ⟨h1,h2⟩:=h b r e;exact ⟨h1,fun w A vs hi ha hr=>h2 w A vs hi ha (xHA (pv.ok _ _ hb) hr)⟩
 . simp at e
theorem xr2 {n:FuncId} {pv:SPatL β} {pb:Pat (List Box) γ} {g:β->γ->Bool×AV×List Box} (h:∀ b c r H',g b c=(true,r,H')->GoodM P Inv n (pv.enc b) (pb.enc c) r H'):OmOk P Inv n (omOf pv pb g):=fun xs H r H' e=>by
 unfold omOf at e;split at e
 . rename_i b hb;split at e
   . rename_i c hc;simp only [z6] at e;rw [pb.ok _ _ hc];obtain ⟨h1,h2⟩:=h b c r H' e;exact ⟨h1,fun w0 w A M vs hi q hR hr=>h2 w0 w A M vs hi q hR (xHA (pv.ok _ _ hb) hr)⟩
   . simp at e
 . simp at e
theorem xCO {nt:Nat} {l:Code} {live liveO:List Nat} {conv:List (Nat×Nat×TypeId)} {pv:Pat (List AV) β} {pb:Pat (List Box) γ} {g:β->γ->Bool×LR}
  (h:∀ b c r,g b c=(true,r)->DoesL P Inv l (fun e1 s1=>e1=r.eval.1/\s1=⟨mkTs nt (liveO.zip r.eval.2.1),r.eval.2.2⟩) ⟨mkTs nt (live.zip (pv.enc b)),pb.enc c⟩):LoopOk P Inv nt l (lpOf live liveO conv pv pb g):=fun vals H r e=>by
 unfold lpOf at e;dsimp only at e;split at e
 . rename_i b hb;split at e
   . rename_i c hc;simp only [z6] at e;rw [pv.ok _ _ hb,pb.ok _ _ hc];exact h b c r e
   . simp at e
 . simp at e
end
theorem xbU {x:Option α} {d:α} (h:x.isSome=true):x=some (x.getD d):=by
 cases x with
 | none=>simp at h
 | some y=>rfl
open Classical in
noncomputable def limN {α:Type} (R:Nat->Option α):Option α:=if h:∃ n,(R n).isSome=true then R (Classical.choose h) else none
theorem xAY {α:Type} {R:Nat->Option α} (h:(limN R).isSome=true):∃ n,limN R=R n:=by
 unfold limN at h |-;split
 . exact ⟨_,rfl⟩
 . rename_i hn;rw [dif_neg hn] at h;simp at h
theorem xwV {α:Type} {R:Nat->Option α} {n:Nat} (h:(R n).isSome=true):(limN R).isSome=true:=by
 unfold limN;rw [dif_pos ⟨n,h⟩];exact Classical.choose_spec (⟨n,h⟩:∃ n,(R n).isSome=true)
theorem xCX {P:Program} {Inv:IV} {f:FuncId} {pv:SPatL β} {g:Nat->β->Bool×AV} {G:β->Bool×AV} (hn:∀ n,OcOk P Inv f (ocOf pv (g n))) (hG:∀ b,(G b).1=true->∃ n,G b=g n b):OcOk P Inv f (ocOf pv G):=fun xs r e=>by
 unfold ocOf at e;split at e
 . rename_i b hb;simp only [z6] at e;obtain ⟨n,q⟩:=hG b (by rw [e])
   refine hn n xs r ?_;unfold ocOf;rw [hb,<-e,q]
 . simp at e
end Go.Sim
end
noncomputable section
namespace Go.Sim.M
open Go.RowKit Go.Proofs
def E0:Env:=(((Env.none.with 143 xl7).with 56 xp8).withM 92 xtB).withM 58 xmH
theorem xI4:xMM Tryz.prog xNs E0:=(((xFH.with xwL).with xAr).withM xDN).withM xyi
end Go.Sim.M
end
noncomputable section
namespace Go.Sim
open Go.RowKit
def EncS {α:Type} (f:α->AV) (a:Option α) (b:Option AV):Prop:=∀ r,a=some r->∃ x,b=some x/\Sub x (f r)
theorem EncS.none {α:Type} {f:α->AV} {b:Option AV}:EncS f .none b:=fun r h=>by simp at h
theorem EncS.some {α:Type} {f:α->AV} {a:α} {b:AV} (h:Sub b (f a)):EncS f (Option.some a) (Option.some b):=fun r e=>by cases e;exact ⟨b,rfl,h⟩
theorem EncS.br {α:Type} {f:α->AV} {t:Bool} {a a':Option α} {b b':Option AV} (h1:EncS f a b) (h2:EncS f a' b'):EncS f (Sim.br t a a') (Sim.br t b b'):=by cases t<;>assumption
theorem GoodM.subR {P:Program} {Inv:IV} {f:FuncId} {args:List AV} {H H':List Box} {r r':AV} (h:GoodM P Inv f args H r H') (hs:Sub r r'):GoodM P Inv f args H r' H' :=
 ⟨h.1,fun w0 w A M vs hI hB hR q=>(h.2 w0 w A M vs hI hB hR q).mono fun e w' h0=>by
  obtain ⟨v,A',M',c1,c2,c3,c4,c5,c6⟩:=h0;exact ⟨v,A',M',c1,c2,c3,c4,c5,hs _ _ _ _ c6⟩⟩
theorem Good.sub {P:Program} {Inv:IV} {f:FuncId} {args:List AV} {r r':AV} (h:Good P Inv f args r) (hs:Sub r r'):Good P Inv f args r' :=
 ⟨h.1,fun w A vs hI hA q=>(h.2 w A vs hI hA q).mono fun e w' ⟨v,he,hb,hr⟩=>⟨v,he,hb,hs w' A xMZ v hr⟩⟩
theorem GoodM.bump1 {P:Program} {Inv:IV} {f:FuncId} {args:List AV} {H:List Box} {v v' k sz:Nat} {ty:TypeId} {xs:List AV} {frz pm:Bool} (U:isC ty=false) (hv:v<v')
  (h:GoodM P Inv f args H (.osl (.b 0) v 0 k) [⟨v,sz,ty,xs,frz,pm⟩]):GoodM P Inv f args H (.osl (.b 0) v' 0 k) [⟨v',sz,ty,xs,frz,pm⟩]:=by
 refine ⟨h.1,fun w0 w A M vs hI hB hR W=>(h.2 w0 w A M vs hI hB hR W).mono ?_⟩
 rintro e w' ⟨u,A',M',rfl,h1,h2,h3,h4,h5⟩;obtain ⟨m,g1,g2,g3,g4⟩:=Rel.osl_inv h5;obtain ⟨bx,q1,q2⟩:=h4.box _ m g1;have:bx=⟨v,sz,ty,xs,frz,pm⟩:=by
  have:=q1;rw [xaT] at this;simpa using this.symm
 subst this;have Q:v=m.ver:=q2.ver;have O:MExt M' (MSet M' (.b 0) ⟨m.b,v',m.sz,m.cap,m.ty⟩):=xpj g1 (.inr (by simp only;omega))
 have J:∀ id m1,MSet M' (.b 0) ⟨m.b,v',m.sz,m.cap,m.ty⟩ id=some m1->∃ m0,M' id=some m0/\m1.b=m0.b/\m1.cap=m0.cap:=fun id m1 q=>by
  by_cases hi:id=.b 0
  . subst hi;simp [MSet] at q;subst q;exact ⟨m,g1,rfl,rfl⟩
  . exact ⟨m1,by simpa [MSet,hi] using q,rfl,rfl⟩
 have hR':HR w' A' (MSet M' (.b 0) ⟨m.b,v',m.sz,m.cap,m.ty⟩) w0.heap.size [⟨v',sz,ty,xs,frz,pm⟩]:=by
  refine ⟨fun id m1 q=>?_,fun id id' m1 m2 k1 k2 c1 c2 he=>?_,h4.lt⟩
  . by_cases hi:id=.b 0
    . subst hi;have:m1=⟨m.b,v',m.sz,m.cap,m.ty⟩:=by simp [MSet] at q;exact q.symm
      subst this;have q3:=q2.mono (w':=w') (fun _=>rfl) (fun _ _ _=>rfl) (zd _) (fun _ _ h=>h) q2.guard O
      exact ⟨⟨v',sz,ty,xs,frz,pm⟩,rfl,rfl,q3.sz,q3.ty,q3.capm,q3.fits,q3.ok,q3.low,q3.lt,q3.cells,q3.guard⟩
    . have V:M' id=some m1:=by simpa [MSet,hi] using q
      obtain ⟨bx,k1,k2⟩:=h4.box id m1 V;have k3:getB [⟨v',sz,ty,xs,frz,pm⟩] id=some bx:=by
       rw [<-k1];exact xbT (H:=[⟨v,sz,ty,xs,frz,pm⟩]) (n:=0) (bx:=⟨v,sz,ty,xs,frz,pm⟩) (bx':=⟨v',sz,ty,xs,frz,pm⟩) rfl U U hi
      exact ⟨bx,k3,k2.mono (fun _=>rfl) (fun _ _ _=>rfl) (zd _) (fun _ _ h=>h) k2.guard O⟩
  . obtain ⟨n1,a1,a2,a3⟩:=J id m1 k1;obtain ⟨n2,b1,b2,b3⟩:=J id' m2 k2;exact h4.inj id id' n1 n2 a1 b1 (by omega) (by omega) (by rw [<-a2,<-b2,he])
 refine ⟨u,A',MSet M' (.b 0) ⟨m.b,v',m.sz,m.cap,m.ty⟩,rfl,h1,h2,h3.step ⟨zd _,fun _ _ _=>rfl,fun _ _ h=>h,fun _ _ h _=>h,O,⟨fun _ _ _=>rfl,fun id m1 q h0=>?_⟩⟩,hR',?_⟩
 . obtain ⟨n1,a1,a2,a3⟩:=J id m1 q;exact .inl ⟨id,n1,a1,by omega,a2⟩
 . exact .osl u (.b 0) v' 0 k ⟨m.b,v',m.sz,m.cap,m.ty⟩ (by simp [MSet]) (zd _) g3 fun _=>g4 Q
theorem GoodM.weaken {P:Program} {Inv:IV} {f:FuncId} {args:List AV} {H H1 H2:List Box} {r r2:AV} (h:GoodM P Inv f args H r H1)
  (hw:∀ w A M B v,HR w A M B H1->Rel w A M v r->∃ M',HR w A M' B H2/\Mv w A M w A M'/\Rel w A M' v r2):GoodM P Inv f args H r2 H2:=by
 refine ⟨h.1,fun w0 w A M vs hI hB hR q=>(h.2 w0 w A M vs hI hB hR q).mono ?_⟩
 rintro e w' ⟨u,A',M',rfl,h1,h2,h3,h4,h5⟩;obtain ⟨M2,g1,g2,g3⟩:=hw w' A' M' _ u h4 h5;exact ⟨u,A',M2,rfl,h1,h2,h3.step g2,g1,g3⟩
theorem xG3 {w:World} {A:Nat->Prop} {M:Id->Option MB} {B:Nat} {H:List Box} (hR:HR w A M B H) {n:Nat} {m:MB} {bx:Box} (hm:M (.b n)=some m) (hb:H[n]?=some bx) (V:isC bx.ty=false) (v:Nat) (hv:m.ver<v) (sz:Nat) (ty:TypeId) (O:isC ty=false) :
  HR w A (MSet M (.b n) ⟨m.b,v,sz,0,ty⟩) B (H.set n ⟨v,sz,ty,[],false,true⟩)/\Mv w A M w A (MSet M (.b n) ⟨m.b,v,sz,0,ty⟩):=by
 have J:MExt M (MSet M (.b n) ⟨m.b,v,sz,0,ty⟩):=xpj hm (.inr hv);have hc:∀ {p:Prop},0<(0:Nat)->p:=fun h=>absurd h (by omega)
 have q:∀ i m1,MSet M (.b n) ⟨m.b,v,sz,0,ty⟩ i=some m1->0<m1.cap->i≠.b n/\M i=some m1:=fun i m1 h1 h0=>by
  by_cases hi:i=.b n
  . subst hi;simp [MSet] at h1;subst h1;exact absurd h0 (by simp)
  . exact ⟨hi,by simpa [MSet,hi] using h1⟩
 refine ⟨⟨fun i m1 h1=>?_,fun i i' m1 m2 h1 h2 c1 c2 he=>hR.inj i i' m1 m2 (q i m1 h1 c1).2 (q i' m2 h2 c2).2 c1 c2 he,hR.lt⟩,⟨zd _,fun _ _ _=>rfl,fun _ _ h=>h,fun _ _ h _=>h,J,⟨fun _ _ _=>rfl,fun i m1 h1 h0=>.inl ⟨i,m1,(q i m1 h1 h0).2,h0,rfl⟩⟩⟩⟩
 by_cases hi:i=.b n
 . subst hi;have:m1=⟨m.b,v,sz,0,ty⟩:=by simp [MSet] at h1;exact h1.symm
   subst this;exact ⟨⟨v,sz,ty,[],false,true⟩,by rw [xaT,zL (xbO hb)],rfl,rfl,xaH O,zQ _,zQ _,fun x hx=>by simp at hx,hc,hc,hc,hc⟩
 . have U:M i=some m1:=by simpa [MSet,hi] using h1
   obtain ⟨Q,g1,g2⟩:=hR.box i m1 U;exact ⟨Q,by rw [xbT hb V O hi];exact g1,g2.mono (fun _=>rfl) (fun _ _ _=>rfl) (zd _) (fun _ _ h=>h) g2.guard J⟩
theorem GoodM.drop0 {P:Program} {Inv:IV} {f:FuncId} {args:List AV} {H:List Box} {v v' w k sz Q:Nat} {ty J:TypeId} {xs ys:List AV} {frz pm O q:Bool} (U:isC ty=false) (hv:v<v')
  (h:GoodM P Inv f args H (.osl (.b 1) w 0 k) [⟨v,sz,ty,xs,frz,pm⟩,⟨w,Q,J,ys,O,q⟩]):GoodM P Inv f args H (.osl (.b 1) w 0 k) [⟨v',sz,ty,[],false,true⟩,⟨w,Q,J,ys,O,q⟩] :=
 h.weaken fun w1 A M B u hR hr=>by
  cases hm:M (.b 0) with
  | some m =>
   obtain ⟨bx,q1,q2⟩:=hR.box _ m hm;have hb:[(⟨v,sz,ty,xs,frz,pm⟩:Box),⟨w,Q,J,ys,O,q⟩][0]?=some ⟨v,sz,ty,xs,frz,pm⟩:=rfl;rw [xaT,hb] at q1;cases q1;obtain ⟨g1,g2⟩:=xG3 hR hm hb U v' (by have:v=m.ver:=q2.ver;omega) sz ty U
   exact ⟨_,g1,g2,g2.rel hr⟩
  | none =>
   refine ⟨M,⟨fun i m V=>?_,hR.inj,hR.lt⟩,Mv.refl,hr⟩
   obtain ⟨bx,q1,q2⟩:=hR.box i m V;refine ⟨bx,?_,q2⟩;by_cases hi:i=.b 0
   . subst hi;rw [hm] at V;cases V
   . rw [<-q1];exact xbT (H:=[⟨v,sz,ty,xs,frz,pm⟩,⟨w,Q,J,ys,O,q⟩]) (n:=0) (bx:=⟨v,sz,ty,xs,frz,pm⟩) (bx':=⟨v',sz,ty,[],false,true⟩) rfl U U hi
theorem GoodM.move0 {P:Program} {Inv:IV} {f:FuncId} {args:List AV} {H:List Box} {v v' w k sz:Nat} {ty:TypeId} {xs:List AV} {frz:Bool} (q:isC ty=false) (hv:v<v')
  (h:GoodM P Inv f args H (.osl (.b 0) v 0 k) [⟨v,sz,ty,xs,frz,true⟩]):GoodM P Inv f args H (.osl (.b 1) w 0 k) [⟨v',sz,ty,[],false,true⟩,⟨w,sz,ty,xs,frz,true⟩] :=
 h.weaken fun w1 A M B u hR hr=>by
  obtain ⟨m,g1,g2,g3,g4⟩:=Rel.osl_inv hr;obtain ⟨bx,q1,q2⟩:=hR.box _ m g1;have:bx=⟨v,sz,ty,xs,frz,true⟩:=by
   have:=q1;rw [xaT] at this;simpa using this.symm
  subst this;have U:v=m.ver:=q2.ver;have V:M (.b 1)=none:=by
   cases h1:M (.b 1) with
   | none=>rfl
   | some m1=>obtain ⟨b1,k1,_⟩:=hR.box _ m1 h1;rw [xaT] at k1;simp at k1
  have Q:∀ n i j m1,M (.r n i j)=some m1->n=0:=fun n i j m1 h1=>by
   obtain ⟨b1,k1,_⟩:=hR.box _ m1 h1;obtain ⟨b0,k2,_⟩:=xnV k1;have:=xbO k2;simp at this;omega
  let M2:Id->Option MB:=MSet (MSet M (.b 0) ⟨m.b,v',sz,0,ty⟩) (.b 1) ⟨m.b,w,m.sz,m.cap,m.ty⟩;have e1:M2 (.b 1)=some ⟨m.b,w,m.sz,m.cap,m.ty⟩:=by simp [M2,MSet]
  have e0:M2 (.b 0)=some ⟨m.b,v',sz,0,ty⟩:=by simp [M2,MSet]
  have eo:∀ i,i≠.b 0->i≠.b 1->M2 i=M i:=fun i h0 h1=>by simp [M2,MSet,h0,h1]
  have O:MExt M M2:=fun i m1 h1=>by
   by_cases h0:i=.b 0
   . subst h0;rw [g1] at h1;cases h1;exact ⟨_,e0,.inr (by simp only;omega)⟩
   . by_cases h2:i=.b 1
     . subst h2;rw [V] at h1;cases h1
     . exact ⟨m1,by rw [eo i h0 h2];exact h1,.inl rfl⟩
  have J:∀ i m1,M2 i=some m1->0<m1.cap->i≠.b 0/\∃ i0 m0,M i0=some m0/\m0.b=m1.b/\m0.cap=m1.cap/\(i=.b 1->i0=.b 0)/\(i≠.b 1->i0=i):=fun i m1 h1 h0=>by
   by_cases hi:i=.b 0
   . subst hi;rw [e0] at h1;cases h1;exact absurd h0 (by simp)
   . refine ⟨hi,?_⟩;by_cases h2:i=.b 1
     . subst h2;rw [e1] at h1;cases h1;exact ⟨.b 0,m,g1,rfl,rfl,fun _=>rfl,fun h=>absurd rfl h⟩
     . rw [eo i hi h2] at h1;exact ⟨i,m1,h1,rfl,rfl,fun h=>absurd h h2,fun _=>rfl⟩
  refine ⟨M2,⟨fun i m1 h1=>?_,fun i i' m1 m2 h1 h2 c1 c2 he=>?_,hR.lt⟩,⟨zd _,fun _ _ _=>rfl,fun _ _ h=>h,fun _ _ h _=>h,O,⟨fun _ _ _=>rfl,fun i m1 h1 h0=>?_⟩⟩,?_⟩
  . by_cases hi:i=.b 0
    . subst hi;rw [e0] at h1;cases h1;have hc:∀ {p:Prop},0<(0:Nat)->p:=fun h=>absurd h (by omega)
      exact ⟨⟨v',sz,ty,[],false,true⟩,rfl,rfl,rfl,xaH q,zQ _,zQ _,fun x hx=>by simp at hx,hc,hc,hc,hc⟩
    . by_cases h2:i=.b 1
      . subst h2;rw [e1] at h1;cases h1;have q3:=q2.mono (w':=w1) (A':=A) (fun _=>rfl) (fun _ _ _=>rfl) (zd _) (fun _ _ h=>h) q2.guard O
        refine ⟨⟨w,sz,ty,xs,frz,true⟩,rfl,rfl,q3.sz,q3.ty,q3.capm,q3.fits,q3.ok,q3.low,q3.lt,fun h0=>?_,q3.guard⟩
        obtain ⟨c,c1,c2,c3⟩:=q3.cells h0;refine ⟨c,c1,c2,fun i j hi hj=>?_⟩
        have:=c3 i j hi hj;rw [xal q,xaF q] at this;rw [xal q,xaF (bx:=⟨w,sz,ty,xs,frz,true⟩) q];exact this
      . rw [eo i hi h2] at h1;obtain ⟨b1,k1,k2⟩:=hR.box i m1 h1;cases i with
        | b n =>
         rw [xaT] at k1;have:=xbO k1;have:n=0:=by simp at this;omega
         subst this;exact absurd rfl hi
        | r n a b =>
         have hn:=Q n a b m1 h1;subst hn;rw [xch (H:=[⟨v,sz,ty,xs,frz,true⟩]) (by rfl) q] at k1
         cases k1;exact ⟨tombB,xch (by rfl) q,k2.mono (fun _=>rfl) (fun _ _ _=>rfl) (zd _) (fun _ _ h=>h) k2.guard O⟩
  . obtain ⟨a1,i0,n0,a2,a3,a4,a5,a6⟩:=J i m1 h1 c1;obtain ⟨b1,j0,n1,b2,b3,b4,b5,b6⟩:=J i' m2 h2 c2;have:=hR.inj i0 j0 n0 n1 a2 b2 (by omega) (by omega) (by rw [a3,b3,he])
    by_cases hi:i=.b 1
    . by_cases hj:i'=.b 1
      . rw [hi,hj]
      . rw [a5 hi,b6 hj] at this;exact absurd this.symm b1
    . by_cases hj:i'=.b 1
      . rw [a6 hi,b5 hj] at this;exact absurd this a1
      . rw [a6 hi,b6 hj] at this;exact this
  . obtain ⟨a1,i0,n0,a2,a3,a4,_,_⟩:=J i m1 h1 h0;exact .inl ⟨i0,n0,a2,by omega,a3.symm⟩
  . exact .osl u (.b 1) w 0 k ⟨m.b,w,m.sz,m.cap,m.ty⟩ e1 (zd _) g3 fun _=>g4 U
end Go.Sim
end
noncomputable section
namespace Go.Sim
open Go.RowKit Go.Proofs
noncomputable abbrev P0:Program:=Tryz.prog
section
variable {α β γ ρ σ : Type}
def qI:Pat AV Int:=pInt .i64
def qL (k:Nat):Pat AV (List AV):=xNM k xNy
def qB {β:Type} (v s t:Nat) (q:Pat (List AV) β):Pat Box β:=xNJ v s t false true q
def bF (v s t:Nat) (x:List AV):Box:=⟨v,s,t,x,false,true⟩
def uI:SPat Int:=sEq qI
def uL (k:Nat):SPat (List AV):=xNK k xNy
def q1 {α α0:Type} (a:Pat α α0):Pat (List α) (α0×Unit):=xNt a (xNv)
def q2 {α α0 α1:Type} (a:Pat α α0) (b:Pat α α1):Pat (List α) (α0×α1×Unit):=xNt a (xNt b (xNv))
def q3 {α α0 α1 α2:Type} (a:Pat α α0) (b:Pat α α1) (c:Pat α α2):Pat (List α) (α0×α1×α2×Unit):=xNt a (xNt b (xNt c (xNv)))
def q4 {α α0 α1 α2 α3:Type} (a:Pat α α0) (b:Pat α α1) (c:Pat α α2) (d:Pat α α3):Pat (List α) (α0×α1×α2×α3×Unit):=xNt a (xNt b (xNt c (xNt d (xNv))))
def q5 {α α0 α1 α2 α3 α4:Type} (a:Pat α α0) (b:Pat α α1) (c:Pat α α2) (d:Pat α α3) (e:Pat α α4):Pat (List α) (α0×α1×α2×α3×α4×Unit):=xNt a (xNt b (xNt c (xNt d (xNt e (xNv)))))
def q6 {α α0 α1 α2 α3 α4 α5:Type} (a:Pat α α0) (b:Pat α α1) (c:Pat α α2) (d:Pat α α3) (e:Pat α α4) (f:Pat α α5):Pat (List α) (α0×α1×α2×α3×α4×α5×Unit):=xNt a (xNt b (xNt c (xNt d (xNt e (xNt f (xNv))))))
def q7 {α α0 α1 α2 α3 α4 α5 α6:Type} (a:Pat α α0) (b:Pat α α1) (c:Pat α α2) (d:Pat α α3) (e:Pat α α4) (f:Pat α α5) (g:Pat α α6):Pat (List α) (α0×α1×α2×α3×α4×α5×α6×Unit):=xNt a (xNt b (xNt c (xNt d (xNt e (xNt f (xNt g (xNv)))))))
def q8 {α α0 α1 α2 α3 α4 α5 α6 α7:Type} (a:Pat α α0) (b:Pat α α1) (c:Pat α α2) (d:Pat α α3) (e:Pat α α4) (f:Pat α α5) (g:Pat α α6) (h:Pat α α7):Pat (List α) (α0×α1×α2×α3×α4×α5×α6×α7×Unit):=xNt a (xNt b (xNt c (xNt d (xNt e (xNt f (xNt g (xNt h (xNv))))))))
def q9 {α α0 α1 α2 α3 α4 α5 α6 α7 α8:Type} (a:Pat α α0) (b:Pat α α1) (c:Pat α α2) (d:Pat α α3) (e:Pat α α4) (f:Pat α α5) (g:Pat α α6) (h:Pat α α7) (i:Pat α α8):Pat (List α) (α0×α1×α2×α3×α4×α5×α6×α7×α8×Unit):=xNt a (xNt b (xNt c (xNt d (xNt e (xNt f (xNt g (xNt h (xNt i (xNv)))))))))
def q10 {α α0 α1 α2 α3 α4 α5 α6 α7 α8 α9:Type} (a:Pat α α0) (b:Pat α α1) (c:Pat α α2) (d:Pat α α3) (e:Pat α α4) (f:Pat α α5) (g:Pat α α6) (h:Pat α α7) (i:Pat α α8) (j:Pat α α9):Pat (List α) (α0×α1×α2×α3×α4×α5×α6×α7×α8×α9×Unit):=xNt a (xNt b (xNt c (xNt d (xNt e (xNt f (xNt g (xNt h (xNt i (xNt j (xNv))))))))))
def u1 {α0:Type} (a:SPat α0):SPatL (α0×Unit):=xNu a (xNw)
def u2 {α0 α1:Type} (a:SPat α0) (b:SPat α1):SPatL (α0×α1×Unit):=xNu a (xNu b (xNw))
def u3 {α0 α1 α2:Type} (a:SPat α0) (b:SPat α1) (c:SPat α2):SPatL (α0×α1×α2×Unit):=xNu a (xNu b (xNu c (xNw)))
def u4 {α0 α1 α2 α3:Type} (a:SPat α0) (b:SPat α1) (c:SPat α2) (d:SPat α3):SPatL (α0×α1×α2×α3×Unit):=xNu a (xNu b (xNu c (xNu d (xNw))))
def u5 {α0 α1 α2 α3 α4:Type} (a:SPat α0) (b:SPat α1) (c:SPat α2) (d:SPat α3) (e:SPat α4):SPatL (α0×α1×α2×α3×α4×Unit):=xNu a (xNu b (xNu c (xNu d (xNu e (xNw)))))
def u6 {α0 α1 α2 α3 α4 α5:Type} (a:SPat α0) (b:SPat α1) (c:SPat α2) (d:SPat α3) (e:SPat α4) (f:SPat α5):SPatL (α0×α1×α2×α3×α4×α5×Unit):=xNu a (xNu b (xNu c (xNu d (xNu e (xNu f (xNw))))))
def u7 {α0 α1 α2 α3 α4 α5 α6:Type} (a:SPat α0) (b:SPat α1) (c:SPat α2) (d:SPat α3) (e:SPat α4) (f:SPat α5) (g:SPat α6):SPatL (α0×α1×α2×α3×α4×α5×α6×Unit):=xNu a (xNu b (xNu c (xNu d (xNu e (xNu f (xNu g (xNw)))))))
def LR.okB:LR->Bool
 | .leaf e _ _=>match e with|.normal=>false|_=>true
 | .node _ a b=>a.okB&&b.okB
theorem LR.okB_ne:∀ {r:LR},r.okB=true->r.eval.1≠.normal
 | .leaf e _ _,h=>fun c=>by
  have c:e=.normal:=c;subst c;simp [LR.okB] at h
 | .node true a b,h=>LR.okB_ne (r:=a) (by simp only [LR.okB,zf] at h;exact h.1)
 | .node false a b,h=>LR.okB_ne (r:=b) (by simp only [LR.okB,zf] at h;exact h.2)
abbrev StT (σ ρ:Type):=σ->Option (σ⊕ρ)
def inL {σ ρ:Type} (s:σ):Option (σ⊕ρ):=some (.inl s)
def inR {σ ρ:Type} (p:ρ):Option (σ⊕ρ):=some (.inr p)
def ixI (l:List AV) (i:Int):Bool:=decide ((0:Int)<=i)&&decide (i<(↑l.length:Int))
def ixS (l:List AV) (i:Int) (s:Sh) (k:Nat):Bool:=decide (i.toNat<l.length)&&xMK s ((l.getD i.toNat .top).cells.getD k .top)
def ixT (l:List AV) (i:Int) (n:Nat) (ss:List Sh) (k:Nat):Bool:=decide (i.toNat<l.length)&&((l.getD i.toNat .top).cells.length==n&&xMR ss (l.getD i.toNat .top).cells k)
def gC (l:List AV) (i:Int) (k:Nat):AV:=(l.getD i.toNat .top).cells.getD k .top
def rmB (n:Nat) (l:List AV) (c z:Nat):Bool:=n==l.length&&(decide ((n+c)*z<=140737488355328)&&decide (n+c<=4611686018427387904))
abbrev RT:=Exit×List AV×List Box
abbrev HL (E:Env) (nt pin:Nat) (ls:List TypeId) (lp:List (Nat×Lp)) (fn:Func):Prop:=LoOk Tryz.prog (xNs.at pin) (E.fn nt pin (lsOf ls) (xM7 lp)) (fn.body.getD .skip)
abbrev FX (E:Env) (nt pin:Nat) (ls:List TypeId) (lp:List (Nat×Lp)) (fn:Func) (pv:SPatL β) (t:β->(T:Type)->T->(ρ->T)->T) (e:β->ρ->AV):Prop:=∀ b,XF Tryz.prog (E.fn nt pin (lsOf ls) (xM7 lp)) fn (fn.body.getD .skip) (pv.enc b)=t b (Option AV) none fun p=>some (e b p)
abbrev FE (t:β->(T:Type)->T->(ρ->T)->T) (e:β->ρ->AV):Prop:=∀ b,Enc (e b) (t b (Option ρ) none some) (t b (Option AV) none fun p=>some (e b p))
abbrev MX (E:Env) (nt pin:Nat) (ls:List TypeId) (lp:List (Nat×Lp)) (fn:Func) (pv:SPatL β) (pb:Pat (List Box) γ) (t:β->γ->(T:Type)->T->(ρ->T)->T) (e:β->γ->ρ->AV×List Box):Prop:=∀ b c,XFM Tryz.prog (E.fn nt pin (lsOf ls) (xM7 lp)) fn (fn.body.getD .skip) (pv.enc b) (pb.enc c)=t b c (Option (AV×List Box)) none fun p=>some (e b c p)
abbrev ME (t:β->γ->(T:Type)->T->(ρ->T)->T) (e:β->γ->ρ->AV×List Box):Prop:=∀ b c,Enc (e b c) (t b c (Option ρ) none some) (t b c (Option (AV×List Box)) none fun p=>some (e b c p))
abbrev TX (E:Env) (nt pin:Nat) (ls:List TypeId) (lp:List (Nat×Lp)) (fn:Func) (pv:SPatL β) (t:β->(ρ->Option AV)->Option AV) (e:β->ρ->AV):Prop:=∀ b,XF Tryz.prog (E.fn nt pin (lsOf ls) (xM7 lp)) fn (fn.body.getD .skip) (pv.enc b)=t b fun p=>some (e b p)
noncomputable abbrev LX (E:Env) (nt pin:Nat) (ls:List TypeId) (lp:List (Nat×Lp)) (l:Code) (lv lo:List Nat) (cv:List (Nat×Nat×TypeId)) (pv:Pat (List AV) β) (pb:Pat (List Box) γ) (F:β->γ->(σ->Option (σ⊕ρ))×σ×(ρ->LR)) (G:β->γ->σ->(β×γ)×((σ->Option RT)->(ρ->Option RT)->Option RT)):Prop:=∀ b c s,XR Tryz.prog (E.fn nt pin (lsOf ls) (xM7 lp)) lv lo cv l (pv.enc (G b c s).1.1) (pb.enc (G b c s).1.2)=(G b c s).2 (fun s=>some (encR (fun s=>(pv.enc (G b c s).1.1,pb.enc (G b c s).1.2)) (F b c).2.2 (.inl s))) fun p=>some (encR (fun s=>(pv.enc (G b c s).1.1,pb.enc (G b c s).1.2)) (F b c).2.2 (.inr p))
abbrev LE (pv:Pat (List AV) β) (pb:Pat (List Box) γ) (F:β->γ->(σ->Option (σ⊕ρ))×σ×(ρ->LR)) (G:β->γ->σ->(β×γ)×((σ->Option RT)->(ρ->Option RT)->Option RT)):Prop:=∀ b c s,Enc (encR (fun s=>(pv.enc (G b c s).1.1,pb.enc (G b c s).1.2)) (F b c).2.2) ((F b c).1 s) ((G b c s).2 (fun s=>some (encR (fun s=>(pv.enc (G b c s).1.1,pb.enc (G b c s).1.2)) (F b c).2.2 (.inl s))) fun p=>some (encR (fun s=>(pv.enc (G b c s).1.1,pb.enc (G b c s).1.2)) (F b c).2.2 (.inr p)))
theorem eV {f:α->β} {a:Option α} {b:Option β} (Y:Option β) (h:b=Y) (he:Enc f a Y):Enc f a b:=h▸he
abbrev LA:=List AV
theorem lkN {P:Program} {Inv:IV} {E:Env}:∀ c,c∈([]:List Code)->∀ lp,E.lp (xMx c)=some lp->LoopOk P Inv E.nt c lp:=fun c h=>by simp at h
theorem lkC {P:Program} {Inv:IV} {E:Env} {l:Code} {ls:List Code} {lp0:Lp} (hok:LoopOk P Inv E.nt l lp0) (ht:∀ c,c∈ls->∀ lp,E.lp (xMx c)=some lp->LoopOk P Inv E.nt c lp) (h:E.lp (xMx l)=some lp0:=by kernel_rfl):∀ c,c∈l::ls->∀ lp,E.lp (xMx c)=some lp->LoopOk P Inv E.nt c lp:=fun c hc lp hs=>by
 rcases zC.1 hc with rfl|hc
 . rw [h,z6] at hs;subst hs;exact hok
 . exact ht c hc lp hs
theorem eN {f:α->β} {b:Option β}:Enc f none b:=Enc.none
theorem eS {f:α->β} {a:α} {b:β} (h:b=f a):Enc f (some a) (some b):=Enc.some h
theorem eB {f:α->β} {t:Bool} {a a':Option α} {b b':Option β} (h1:Enc f a b) (h2:Enc f a' b'):Enc f (br t a a') (br t b b'):=Enc.br h1 h2
def fnO (pv:SPatL β) (t:β->(T:Type)->T->(ρ->T)->T) (e:β->ρ->AV) (d:ρ):List AV->Option (Bool×AV):=ocOf pv fun b=>((t b (Option ρ) none some).isSome,e b ((t b (Option ρ) none some).getD d))
def fmO (pv:SPatL β) (pb:Pat (List Box) γ) (t:β->γ->(T:Type)->T->(ρ->T)->T) (e:β->γ->ρ->AV×List Box) (d:ρ):List AV->List Box->Option (Bool×AV×List Box):=omOf pv pb fun b c=>((t b c (Option ρ) none some).isSome,e b c ((t b c (Option ρ) none some).getD d))
noncomputable def lpO (lv lo:List Nat) (cv:List (Nat×Nat×TypeId)) (pv:Pat (List AV) β) (pb:Pat (List Box) γ) (F:β->γ->(σ->Option (σ⊕ρ))×σ×(ρ->LR)) (d:ρ):Lp :=
 lpOf lv lo cv pv pb fun b c=>((Iter (F b c).1 (F b c).2.1).isSome,(F b c).2.2 ((Iter (F b c).1 (F b c).2.1).getD d))
section
variable {E : Env}
def Tot {α:Type} (e:ρ->α) (a:ρ) (x:Option α):Prop:=x=some (e a)
theorem eT {α:Type} {e:ρ->α} {t:Bool} {a b:ρ} {x y:Option α} (h1:Tot e a x) (h2:Tot e b y):Tot e (br t a b) (br t x y):=by cases t<;>assumption
theorem eU {α:Type} {e:ρ->α} {a:ρ} {x:α} (h:x=e a):Tot e a (some x):=congrArg some h
def ftO (pv:SPatL β) (f:β->ρ) (e:β->ρ->AV):List AV->Option (Bool×AV):=ocOf pv fun b=>(true,e b (f b))
theorem ftC (h:xMM Tryz.prog xNs E) {g:FuncId} {fn:Func} (hf:Tryz.prog.funcs[g]?=some fn) (nt pin:Nat) (ls:List TypeId) (lp:List (Nat×Lp)) {pv:SPatL β} {f:β->ρ} {e:β->ρ->AV}
  (hl:HL E nt pin ls lp fn) (t:β->(ρ->Option AV)->Option AV) (hx:TX E nt pin ls lp fn pv t e:=by intro b;kernel_rfl)
  (he:∀ b,Tot (e b) (f b) (t b fun p=>some (e b p)):=by intro b;repeat' first|apply eT|exact eU rfl)
  (hb:fn.body.isSome=true:=by exact rfl) (hn:(fn.name == "runtime.NumGoroutine")=false:=by kernel_rfl):OcOk Tryz.prog xNs g (ftO pv f e):=xnl fun b r hh=>by
 obtain ⟨_,h2⟩:=Prod.mk.inj hh;subst h2;exact xhm (p:=pin) (xlk xMV (xMW Tryz.prog _) rfl h.fn hf hb hn hl ((hx b).trans (he b)))
theorem lk0 {Inv:IV} {c:Code} (h:xM4 c=[]:=by kernel_rfl) (hc:((xM0 c).all fun d=>(E.lp (condId d)).isNone)=true:=by kernel_rfl):LoOk Tryz.prog Inv E c:=xmP h hc
theorem lk1 {Inv:IV} {c l:Code} {lp0:Lp} (hok:LoopOk Tryz.prog Inv E.nt l lp0) (h:xM4 c=[l]:=by kernel_rfl) (he:E.lp (xMx l)=some lp0:=by kernel_rfl) (hc:((xM0 c).all fun d=>(E.lp (condId d)).isNone)=true:=by kernel_rfl):LoOk Tryz.prog Inv E c:=xho h (lkC hok lkN he) hc
structure EO where
 E:Env
 ok:xMM Tryz.prog xNs E
def EO.w (e:EO) {g:FuncId} {o:List AV->Option (Bool×AV)} (c:OcOk Tryz.prog xNs g o):EO:=⟨e.E.with g o,e.ok.with c⟩
def EO.wM (e:EO) {g:FuncId} {o:List AV->List Box->Option (Bool×AV×List Box)} (c:OmOk Tryz.prog xNs g o):EO:=⟨e.E.withM g o,e.ok.withM c⟩
theorem fnC (h:xMM Tryz.prog xNs E) {g:FuncId} {fn:Func} (hf:Tryz.prog.funcs[g]?=some fn) (nt pin:Nat) (ls:List TypeId) (lp:List (Nat×Lp)) {pv:SPatL β} {t:β->(T:Type)->T->(ρ->T)->T} {e:β->ρ->AV} {d:ρ}
  (hl:HL E nt pin ls lp fn) (hx:FX E nt pin ls lp fn pv t e:=by intro b;kernel_rfl)
  (he:FE t e:=by intro b;repeat' first|apply eB|exact eN|exact eS rfl)
  (hb:fn.body.isSome=true:=by exact rfl) (hn:(fn.name == "runtime.NumGoroutine")=false:=by kernel_rfl):OcOk Tryz.prog xNs g (fnO pv t e d):=xnl fun b r hh=>by
 obtain ⟨h1,h2⟩:=Prod.mk.inj hh;subst h2;exact xhm (p:=pin) (xlk xMV (xMW Tryz.prog _) rfl h.fn hf hb hn hl ((hx b).trans (he b _ (xbU h1))))
theorem fmC (h:xMM Tryz.prog xNs E) {g:FuncId} {fn:Func} (hf:Tryz.prog.funcs[g]?=some fn) (nt pin:Nat) (ls:List TypeId) (lp:List (Nat×Lp)) {pv:SPatL β} {pb:Pat (List Box) γ} {t:β->γ->(T:Type)->T->(ρ->T)->T} {e:β->γ->ρ->AV×List Box} {d:ρ}
  (hl:HL E nt pin ls lp fn) (hx:MX E nt pin ls lp fn pv pb t e:=by intro b c;kernel_rfl)
  (he:ME t e:=by intro b c;repeat' first|apply eB|exact eN|exact eS rfl)
  (hp:∀ c,(pb.enc c).length=pin:=by exact fun _=>rfl) (hb:fn.body.isSome=true:=by exact rfl) (hn:(fn.name == "runtime.NumGoroutine")=false:=by kernel_rfl):OmOk Tryz.prog xNs g (fmO pv pb t e d):=xr2 fun b c r H' hh=>by
 obtain ⟨h1,h2⟩:=Prod.mk.inj hh;exact xgN (p:=pin) (xiH xMV (xMW Tryz.prog _) rfl h.fn (hp c) hf hb hn hl (((hx b c).trans (he b c _ (xbU h1))).trans (congrArg some h2)))
theorem lpC (h:xMM Tryz.prog xNs E) (nt pin:Nat) (ls:List TypeId) (lp:List (Nat×Lp)) {l:Code} {lv lo:List Nat} {cv:List (Nat×Nat×TypeId)} {pv:Pat (List AV) β} {pb:Pat (List Box) γ} {F:β->γ->(σ->Option (σ⊕ρ))×σ×(ρ->LR)} {d:ρ}
  (hl:LoOk Tryz.prog (xNs.at pin) (E.fn nt pin (lsOf ls) (xM7 lp)) l) (G:β->γ->σ->(β×γ)×((σ->Option RT)->(ρ->Option RT)->Option RT))
  (hx:LX E nt pin ls lp l lv lo cv pv pb F G:=by intro b c s;kernel_rfl)
  (he:LE pv pb F G:=by intro b c s;repeat' first|apply eB|exact eN|exact eS rfl)
  (hM:∀ b c,(G b c (F b c).2.1).1=(b,c):=by exact fun _ _=>rfl) (ho:∀ b c r,((F b c).2.2 r).okB=true:=by exact fun _ _ _=>rfl):LoopOk Tryz.prog (xNs.at pin) nt l (lpO lv lo cv pv pb F d):=xCO fun b c r hh=>by
 obtain ⟨h1,h2⟩:=Prod.mk.inj hh;subst h2;have:=xrR xMV (xMW Tryz.prog _) rfl (h.fn (nt:=nt) (pin:=pin) (ls:=lsOf ls) (lp:=xM7 lp)) hl (fun s=>(pv.enc (G b c s).1.1,pb.enc (G b c s).1.2)) (F b c).2.2 (fun p=>LR.okB_ne (ho b c p)) (fun s r hr=>(hx b c s).trans (he b c s r hr)) (xbU (d:=d) h1)
 dsimp only at this;rw [hM b c] at this;exact this
structure LO (pin nt:Nat) (l:Code) where
 lp:Lp
 ok:LoopOk Tryz.prog (xNs.at pin) nt l lp
noncomputable def EO.f (x:EO) {g:FuncId} {fn:Func} (hf:Tryz.prog.funcs[g]?=some fn) (nt pin:Nat) (ls:List TypeId) (lp:List (Nat×Lp))
 (hl:HL x.E nt pin ls lp fn) (pv:SPatL β) (t:β->(T:Type)->T->(ρ->T)->T) (e:β->ρ->AV) (d:ρ) (hx:FX x.E nt pin ls lp fn pv t e:=by intro b;kernel_rfl)
 (he:FE t e:=by intro b;repeat' first|apply eB|exact eN|exact eS rfl)
 (hb:fn.body.isSome=true:=by exact rfl) (hn:(fn.name == "runtime.NumGoroutine")=false:=by kernel_rfl):EO:=x.w (fnC (d:=d) x.ok hf nt pin ls lp hl hx he hb hn)
noncomputable def EO.fM (x:EO) {g:FuncId} {fn:Func} (hf:Tryz.prog.funcs[g]?=some fn) (nt pin:Nat) (ls:List TypeId) (lp:List (Nat×Lp))
 (hl:HL x.E nt pin ls lp fn) (pv:SPatL β) (pb:Pat (List Box) γ) (t:β->γ->(T:Type)->T->(ρ->T)->T) (e:β->γ->ρ->AV×List Box) (d:ρ) (hx:MX x.E nt pin ls lp fn pv pb t e:=by intro b c;kernel_rfl)
 (he:ME t e:=by intro b c;repeat' first|apply eB|exact eN|exact eS rfl)
 (hp:∀ c,(pb.enc c).length=pin:=by exact fun _=>rfl) (hb:fn.body.isSome=true:=by exact rfl) (hn:(fn.name == "runtime.NumGoroutine")=false:=by kernel_rfl):EO:=x.wM (fmC (d:=d) x.ok hf nt pin ls lp hl hx he hp hb hn)
noncomputable def EO.fT (x:EO) {g:FuncId} {fn:Func} (hf:Tryz.prog.funcs[g]?=some fn) (nt pin:Nat) (ls:List TypeId) (lp:List (Nat×Lp))
 (hl:HL x.E nt pin ls lp fn) (t:β->(ρ->Option AV)->Option AV) (pv:SPatL β) (f:β->ρ) (e:β->ρ->AV) (hx:TX x.E nt pin ls lp fn pv t e:=by intro b;kernel_rfl)
 (he:∀ b,Tot (e b) (f b) (t b fun p=>some (e b p)):=by intro b;repeat' first|apply eT|exact eU rfl)
 (hb:fn.body.isSome=true:=by exact rfl) (hn:(fn.name == "runtime.NumGoroutine")=false:=by kernel_rfl):EO:=x.w (ftC x.ok hf nt pin ls lp hl t hx he hb hn)
noncomputable def EO.l (x:EO) (nt pin:Nat) (ls:List TypeId) (lp:List (Nat×Lp)) (fn:Func) (k:Nat) (hl:LoOk Tryz.prog (xNs.at pin) (x.E.fn nt pin (lsOf ls) (xM7 lp)) (xMQ fn k)) (lv lo:List Nat) (cv:List (Nat×Nat×TypeId)) (pv:Pat (List AV) β) (pb:Pat (List Box) γ) (F:β->γ->(σ->Option (σ⊕ρ))×σ×(ρ->LR)) (d:ρ)
 (G:β->γ->σ->(β×γ)×((σ->Option RT)->(ρ->Option RT)->Option RT))
 (hx:LX x.E nt pin ls lp (xMQ fn k) lv lo cv pv pb F G:=by intro b c s;kernel_rfl)
 (he:LE pv pb F G:=by intro b c s;repeat' first|apply eB|exact eN|exact eS rfl)
 (hM:∀ b c,(G b c (F b c).2.1).1=(b,c):=by exact fun _ _=>rfl) (ho:∀ b c r,((F b c).2.2 r).okB=true:=by exact fun _ _ _=>rfl):LO pin nt (xMQ fn k):=⟨lpO lv lo cv pv pb F d,lpC x.ok nt pin ls lp hl G hx he hM ho⟩
theorem lks {Inv:IV} {c:Code} {ls:List Code} (hl:∀ l,l∈ls->∀ lp,E.lp (xMx l)=some lp->LoopOk Tryz.prog Inv E.nt l lp) (h:xM4 c=ls:=by kernel_rfl) (hc:((xM0 c).all fun d=>(E.lp (condId d)).isNone)=true:=by kernel_rfl):LoOk Tryz.prog Inv E c:=xho h hl hc
end
end
end Go.Sim
end
noncomputable section
namespace Go.Sim
theorem sUF:(∀ {σ ρ:Type} (s:σ),(inL s:Option (σ⊕ρ))=some (.inl s))/\(∀ {σ ρ:Type} (p:ρ),(inR p:Option (σ⊕ρ))=some (.inr p))/\(∀ (l:List AV) (i:Int),ixI l i=(decide ((0:Int)<=i)&&decide (i<(↑l.length:Int))))/\(∀ (l:List AV) (i:Int) (s:Sh) (k:Nat),ixS l i s k=(decide (i.toNat<l.length)&&xMK s ((l.getD i.toNat .top).cells.getD k .top)))/\(∀ (l:List AV) (i:Int) (n:Nat) (ss:List Sh) (k:Nat),ixT l i n ss k=(decide (i.toNat<l.length)&&((l.getD i.toNat .top).cells.length==n&&xMR ss (l.getD i.toNat .top).cells k)))/\(∀ (l:List AV) (i:Int) (k:Nat),gC l i k=(l.getD i.toNat .top).cells.getD k .top)/\(∀ (n:Nat) (l:List AV) (c z:Nat),rmB n l c z=(n==l.length&&(decide ((n+c)*z<=140737488355328)&&decide (n+c<=4611686018427387904)))) :=
 ⟨fun _=>rfl,fun _=>rfl,fun _ _=>rfl,fun _ _ _ _=>rfl,fun _ _ _ _ _=>rfl,fun _ _ _=>rfl,fun _ _ _ _=>rfl⟩
theorem sBU:((∀ {α β:Type} {l:List α} (f:α->β),(l.map f).length=l.length)/\(∀ {T:Type} {a b:T},br true a b=a)/\(∀ {T:Type} {a b:T},br false a b=b)/\(∀ (h:Decidable True),@decide True h=true)/\(∀ (h:Decidable False),@decide False h=false) /\
  (∀ b:Bool,(b&&true)=b)/\(∀ b:Bool,(true&&b)=b)/\((!true)=false)/\((!false)=true)/\(∀ n:Nat,(n:Int).toNat=n)/\(∀ n:Nat,(0:Int)<=(n:Int))/\(∀ {α:Type} {a:α},(some a).isSome=true)/\(∀ {α:Type} {a b:α},(some a).getD b=a) /\
  (∀ {α:Type} [BEq α] [ReflBEq α] (a:α),(a==a)=true)/\(∀ n:Nat,0+n=n)/\(∀ n:Nat,n - 0=n))/\(∀ {σ ρ:Type} (s:σ),(inL s:Option (σ⊕ρ))=some (.inl s))/\(∀ {σ ρ:Type} (p:ρ),(inR p:Option (σ⊕ρ))=some (.inr p))/\(∀ (l:List AV) (i:Int),ixI l i=(decide ((0:Int)<=i)&&decide (i<(↑l.length:Int))))/\(∀ (l:List AV) (i:Int) (s:Sh) (k:Nat),ixS l i s k=(decide (i.toNat<l.length)&&xMK s ((l.getD i.toNat .top).cells.getD k .top)))/\(∀ (l:List AV) (i:Int) (n:Nat) (ss:List Sh) (k:Nat),ixT l i n ss k=(decide (i.toNat<l.length)&&((l.getD i.toNat .top).cells.length==n&&xMR ss (l.getD i.toNat .top).cells k)))/\(∀ (l:List AV) (i:Int) (k:Nat),gC l i k=(l.getD i.toNat .top).cells.getD k .top)/\(∀ (n:Nat) (l:List AV) (c z:Nat),rmB n l c z=(n==l.length&&(decide ((n+c)*z<=140737488355328)&&decide (n+c<=4611686018427387904)))) :=
 ⟨⟨za,rfl,rfl,fun h=>by simp,fun h=>by simp,zS,Bool.true_and,rfl,rfl,zN,Int.natCast_nonneg,rfl,rfl,fun a=>beq_self_eq_true a,zH,Nat.sub_zero⟩,sUF⟩
theorem sOO:(∀ {α:Type} {l:List α},l.drop 0=l)/\(∀ {α:Type} {l:List α} {i:Nat},l.length<=i->l.take i=l)/\(∀ n:Nat,0+n=n)/\(∀ {α β:Type} {l:List α} (f:α->β),(l.map f).length=l.length)/\(∀ n:Nat,n<=n)/\(∀ (h:Decidable True),@decide True h=true)/\(∀ b:Bool,(b&&true)=b)/\(∀ {T:Type} {a b:T},br true a b=a) /\
  (∀ {α:Type} {a:α},(some a).isSome=true)/\(∀ {α:Type} {a b:α},(some a).getD b=a) :=
 ⟨zr,zi,zH,za,zd,fun h=>by simp,zS,rfl,rfl,rfl⟩
end Go.Sim
noncomputable def Go.Sim.M.xLp:Go.Sim.EO:=Go.Sim.EO.mk Go.Sim.M.E0 Go.Sim.M.xI4
end
noncomputable section
set_option maxRecDepth 100000
namespace Go.Sim.M
open Go.IntKind (i64 u64 u8)
open Go.RowKit Go.Proofs
def xdP {T:Type} (a:List UInt8) (δ:T) (κ:Int×Nat×LA->T):T:=br (decide ((byteAVs a).length*1<=140737488355328)&&decide ((byteAVs a).length<=4611686018427387904)) (κ ((↑a.length:Int),(byteAVs a).length,byteAVs a)) δ
def xaq (a:List UInt8):=xdP a none some
def xLr:EO:=xLp.fM Tryz.func55 19 1 [] [] lk0 (u2 (sEq (xNH 0 0 0 0)) (sEq pStr)) (q1 (qB 0 2 98 (q1 (xNI (q2 pNilptr pNils))))) (fun (_,a,_) (((_,_,_),_),_) _=>xdP a) (fun _ _ p=>(AV.tuple [AV.int .i64 p.1,.top],([⟨0,2,98,[AV.agg [AV.own 0 0 0 0,AV.osl 1 0 0 p.2.1]],false,false⟩,bF 0 1 5 p.2.2]:List Box))) (0,0,[])
def xdr {T:Type} (a:List UInt8) (n:Nat) (b:LA) (δ:T) (κ:Int×Nat×LA->T):T:=br (n==b.length&&(decide ((n+(byteAVs a).length)*1<=140737488355328)&&decide (n+(byteAVs a).length<=4611686018427387904))) (κ ((↑a.length:Int),n+(byteAVs a).length,b++byteAVs a)) δ
def xaj (a:List UInt8) (n:Nat) (b:LA):=xdr a n b none some
def xLs:EO:=xLr.fM Tryz.func55 19 2 [] [] lk0 (u2 (sEq (xNH 0 0 0 0)) (sEq pStr)) (q2 (xNJ 0 2 98 false false (q1 (xNI (q2 (xNH 0 0 0 0) (xNG 1 0 0))))) (qB 0 1 5 xNy)) (fun (_,a,_) (((_,n,_),_),b,_) _=>xdr a n b) (fun _ _ p=>(AV.tuple [AV.int .i64 p.1,.top],([⟨0,2,98,[AV.agg [AV.own 0 0 0 0,AV.osl 1 1 0 p.2.1]],false,false⟩,bF 1 1 5 p.2.2]:List Box))) (0,0,[])
def xnh {T:Type} (a:List UInt8) (n:Nat) (b:LA) (δ:T) (κ:Int×Nat×LA->T):T:=br (n==b.length&&(decide ((n+(byteAVs a).length)*1<=140737488355328)&&decide (n+(byteAVs a).length<=4611686018427387904))) (κ ((↑a.length:Int),n+(byteAVs a).length,b++byteAVs a)) δ
def xE5:EO:=xLs.fM Tryz.func55 19 2 [] [] lk0 (u2 (sEq (xNH 0 0 0 0)) (sEq pStr)) (q2 (xNJ 0 2 98 false false (q1 (xNI (q2 (xNH 0 0 0 0) (xNG 1 1 0))))) (qB 1 1 5 xNy)) (fun (_,a,_) (((_,n,_),_),b,_) _=>xnh a n b) (fun _ _ p=>(AV.tuple [AV.int .i64 p.1,.top],([⟨0,2,98,[AV.agg [AV.own 0 0 0 0,AV.osl 1 2 0 p.2.1]],false,false⟩,bF 2 1 5 p.2.2]:List Box))) (0,0,[])
def xaM:Env:=xE5.E.fn 17 1 (lsOf []) (xM7 [])
theorem xmh:xMM P0 (xNs.at 1) xaM:=xE5.ok.fn
theorem xlE:LoOk P0 (xNs.at xaM.pin) xaM (Tryz.f57.body.getD .skip):=xmP (by kernel_rfl)
def xeW (c:Int):Int:=((c))
def xgn (c:Int):Bool:=true
def xhv {T:Type} (c:Int) (δ:T) (κ:Int->T):T:=κ (c)
theorem xo5 (c:Int):Pre (xgn c) (XFM P0 xaM Tryz.f57 (Tryz.f57.body.getD .skip) [AV.own (0:Id) 0 0 0,AV.int .u8 c] [{ ver:=0,sz:=2,ty:=(98:TypeId),xs:=[AV.agg [AV.nilptr,AV.nils]],frz:=false,pm:=true }]) ((.top,([⟨0,2,98,[AV.agg [AV.own 0 0 0 0,AV.osl 1 0 0 1]],false,false⟩,⟨0,1,5,[AV.int .u8 (xeW c)],false,true⟩]:List Box))):=by
 have h:XFM P0 xaM Tryz.f57 (Tryz.f57.body.getD .skip) [AV.own (0:Id) 0 0 0,AV.int .u8 c] [{ ver:=0,sz:=2,ty:=(98:TypeId),xs:=[AV.agg [AV.nilptr,AV.nils]],frz:=false,pm:=true }]=xhv c none (fun (p:Int)=>some (((.top,([⟨0,2,98,[AV.agg [AV.own 0 0 0 0,AV.osl 1 0 0 1]],false,false⟩,⟨0,1,5,[AV.int .u8 p],false,true⟩]:List Box))):(AV×List Box))):=by kernel_rfl
 rw [h];unfold xeW xgn xhv;repeat' (first|exact Pre.none|exact Pre.tt rfl|exact Pre.some rfl|refine Pre.l ?_|refine Pre.r ?_|refine Pre.br (f:=fun (p:Int)=>(((.top,([⟨0,2,98,[AV.agg [AV.own 0 0 0 0,AV.osl 1 0 0 1]],false,false⟩,⟨0,1,5,[AV.int .u8 p],false,true⟩]:List Box))):(AV×List Box))) ?_ ?_|refine Pre.brt (f:=fun (p:Int)=>(((.top,([⟨0,2,98,[AV.agg [AV.own 0 0 0 0,AV.osl 1 0 0 1]],false,false⟩,⟨0,1,5,[AV.int .u8 p],false,true⟩]:List Box))):(AV×List Box))) ?_ ?_)
def xo4:LA->List Box->Option (Bool×AV×List Box):=omOf (xNu (sEq (xNH 0 0 0 0)) (xNu (sEq (pInt .u8)) xNw)) (xNt (xNJ 0 2 (98:TypeId) false true (xNt (xNI (xNt pNilptr (xNt pNils xNv))) xNv)) xNv) fun (_,(c,_)) (((_,(_,_)),_),_)=>(true,((.top,([⟨0,2,98,[AV.agg [AV.own 0 0 0 0,AV.osl 1 0 0 1]],false,false⟩,⟨0,1,5,[AV.int .u8 (xeW c)],false,true⟩]:List Box))))
theorem xo3:OmOk P0 xNs 57 (xo4):=xr2 fun b d h f e=>by
 obtain ⟨_,⟨c,_⟩⟩:=b;obtain ⟨⟨⟨_,⟨_,_⟩⟩,_⟩,_⟩:=d;obtain ⟨g,a⟩:=Prod.mk.inj e;refine xgN (p:=xaM.pin) (xiH xMV (xMW P0 _) rfl xmh rfl Tryz.func57 rfl (by kernel_rfl) xlE ((Pre.get (xo5 _) rfl).trans ?_))
 exact congrArg some a
def xLt:EO:=xE5.wM xo3
def xhf {T:Type} (c:Int) (n:Nat) (a:LA) (δ:T) (κ:Nat×LA->T):T:=br (rmB n a 1 1) (κ (n+1,a++[AV.int .u8 c])) δ
def xeF (c:Int) (n:Nat) (a:LA):=xhf c n a none some
def xLu:EO:=xLt.fM Tryz.func57 17 2 [] [] lk0 (u2 (sEq (xNH 0 0 0 0)) (sEq (pInt .u8))) (q2 (xNJ 0 2 98 false false (q1 (xNI (q2 (xNH 0 0 0 0) (xNG 1 0 0))))) (qB 0 1 5 xNy)) (fun (_,c,_) (((_,n,_),_),a,_) _=>xhf c n a) (fun _ _ p=>(.top,([⟨0,2,98,[AV.agg [AV.own 0 0 0 0,AV.osl 1 1 0 p.1]],false,false⟩,bF 1 1 5 p.2]:List Box))) (0,[])
def xd2 {T:Type} (c:Int) (n:Nat) (a:LA) (δ:T) (κ:Nat×LA->T):T:=br (rmB n a 1 1) (κ (n+1,a++[AV.int .u8 c])) δ
def xcJ (c:Int) (n:Nat) (a:LA):=xd2 c n a none some
def xLv:EO:=xLu.fM Tryz.func57 17 2 [] [] lk0 (u2 (sEq (xNH 0 0 0 0)) (sEq (pInt .u8))) (q2 (xNJ 0 2 98 false false (q1 (xNI (q2 (xNH 0 0 0 0) (xNG 1 1 0))))) (qB 1 1 5 xNy)) (fun (_,c,_) (((_,n,_),_),a,_) _=>xd2 c n a) (fun _ _ p=>(.top,([⟨0,2,98,[AV.agg [AV.own 0 0 0 0,AV.osl 1 2 0 p.1]],false,false⟩,bF 2 1 5 p.2]:List Box))) (0,[])
def xcl (a b:Int):Bool:=(br (decide (a>=0)) (br (decide (a<b)) ((decide (b<=1099511627776))) ((false))) ((false)))
def xAi {T:Type} (a b:Int) (δ:T) (κ:Bool->T):T:=br (decide (a>=0)) (br (decide (a<b)) (κ (decide (b<=1099511627776))) (κ (false))) (κ (false))
def xE6:EO:=xLv.fT Tryz.func127 18 0 [] [] lk0 (fun ((a,b,_),_)=>xAi a b none) (u1 (xNL (u2 uI uI))) (fun ((a,b,_),_)=>xcl a b) (fun _ p=>(AV.bool p))
def xeN (b:Int) (a:LA):=((a.getD (0+b.toNat) .top).cells.getD 0 .top).toInt
def xkE (d:Int) (c:Nat) (b a:LA):=((xaj (Lib.itoa (xeN d b)) c a).getD (0,0,[])).snd
def xkD (d:Int) (c:Nat) (b a:LA):=xcJ 32 (xkE d c b a).fst (xkE d c b a).snd
def xkC (d:Int) (c:Nat) (b a:LA):=(xkD d c b a).getD (0,[])
def xhy {T:Type} (k:LA) (l j:Int) (e:Nat) (i c:Int) (d:Nat) (f g:Int) (h:List UInt8) (a b:LA) (δ:T) (κl:(Int×Nat×Int×Int×List UInt8×LA×LA)->T) (κr:(Nat×Int×Int×List UInt8×LA)->T):T:=br (decide (c<i)) (br (decide (0<=c)&&decide (c<(↑e:Int))) (br (decide (0+c.toNat<a.length)&&xMK (Sh.int .i64) ((a.getD (0+c.toNat) .top).cells.getD 0 .top)) (br (decide ((-9223372036854775808)<=xeN c a)&&decide (xeN c a<=9223372036854775807)) (br ((xaj (Lib.itoa (xeN c a)) d b).isSome) (br ((xkD c d a b).isSome) (κl (i64.wrap (c+1),(xkC c d a b).fst,f,g,h,a,(xkC c d a b).snd)) δ) δ) δ) δ) δ) (κr (d,f,g,h,b))
def xaO (k:LA) (l e:Int) (c:Nat) (f:Int):StT (Int×Nat×Int×Int×List UInt8×LA×LA) (Nat×Int×Int×List UInt8×LA):=fun (g,d,h,i,j,b,a)=>xhy k l e c f g d h i j b a none inL inR
def xgL:=xE6.l 37 0 [] [] Tryz.f130 1 lk0 [3,5,8,9,10,21,22,23] [3,5,8,9,10] [] (q8 (xNH 0 0 0 0) (xNH 1 0 0 0) (qL 3) qI qI (xNG 2 0 0) qI qI) (q4 (xNJ 0 2 98 false false (q1 (xNI (q2 (xNH 0 0 0 0) (xNG 3 0 0))))) (qB 0 3 86 (q1 (xNI (q3 qI qI pStr)))) (qB 0 1 3 xNy) (qB 0 1 5 xNy)) (fun (_,_,k,m,e,c,f,g,_) (((_,d,_),_),((h,i,j,_),_),b,a,_)=>(xaO k m e c f,(g,d,h,i,j,b,a),fun p=>(.leaf (.exit 2) [AV.own 0 0 0 0,AV.own 1 0 0 0,AV.list 3 k,AV.int .i64 m,AV.int .i64 e] [⟨0,2,98,[AV.agg [AV.own 0 0 0 0,AV.osl 2 0 0 p.1]],false,false⟩,bF 0 3 86 [AV.agg [AV.int .i64 p.2.1,AV.int .i64 p.2.2.1,AV.str p.2.2.2.1]],bF 0 1 5 p.2.2.2.2]))) (0,0,0,[],[]) fun (_,_,k,m,e,c,f,_,_) _ (g,d,h,i,j,b,a)=>((((),(),k,m,e,c,f,g,()),((((),d,()),()),((h,i,j,()),()),b,a,())),xhy k m e c f g d h i j b a none)
def xkB (b:LA) (e a:Int) (d:Nat) (c:LA):=Iter (xaO b e a 3 3) (0,d,(gC b a 0).toInt,(gC b a 1).toInt,(gC b a 2).toStr,[AV.int .i64 (gC b a 0).toInt,AV.int .i64 (gC b a 1).toInt,AV.int .i64 (↑(gC b a 2).toStr.length:Int)],c)
def xkA (d:LA) (e c:Int) (b:Nat) (a:LA):=(xkB d e c b a).getD (0,0,0,[],[])
def xkz (d:LA) (e c:Int) (b:Nat) (a:LA):=(xkA d e c b a).snd.snd.snd
def xky (d:LA) (e c:Int) (b:Nat) (a:LA):=xaj (xkz d e c b a).fst (xkA d e c b a).fst (xkz d e c b a).snd
def xkw (d:LA) (e c:Int) (b:Nat) (a:LA):=((xky d e c b a).getD (0,0,[])).snd
def xhw {T:Type} (d:LA) (e b:Int) (c:Nat) (a:LA) (δ:T) (κl:(Int×Nat×LA)->T) (κr:(Nat×LA)->T):T:=br (decide (b<e)) (br (ixI d b) (br (ixT d b 3 [Sh.int .i64,Sh.int .i64,Sh.str] 0) (br ((xkB d e b c a).isSome) (br ((xky d e b c a).isSome) (κl (i64.wrap (b+1),(xkw d e b c a).fst,(xkw d e b c a).snd)) δ) δ) δ) δ) (κr (c,a))
def xcw (d:LA) (e:Int):StT (Int×Nat×LA) (Nat×LA):=fun (c,b,a)=>xhw d e c b a none inL inR
def xqn:=xE6.l 37 0 [] [(6,xgL.lp)] Tryz.f130 0 (lk1 xgL.ok) [3,8,9,10] [3] [] (q4 (xNH 0 0 0 0) (qL 3) qI qI) (q2 (xNJ 0 2 98 false false (q1 (xNI (q2 (xNH 0 0 0 0) (xNG 1 0 0))))) (qB 0 1 5 xNy)) (fun (_,d,e,c,_) (((_,b,_),_),a,_)=>(xcw d e,(c,b,a),fun p=>(.leaf (.exit 0) [AV.own 0 0 0 0] [⟨0,2,98,[AV.agg [AV.own 0 0 0 0,AV.osl 1 0 0 p.1]],false,false⟩,bF 0 1 5 p.2]))) (0,[]) fun (_,d,e,_,_) _ (c,b,a)=>((((),d,e,c,()),((((),b,()),()),a,())),xhw d e c b a none)
def xcf (a:LA):=((a.getD 0 .top).cells.getD 0 .top).toInt
def xnI (a:LA):=xeF 32 ((xaq (Lib.itoa (xcf a))).getD (0,0,[])).snd.fst ((xaq (Lib.itoa (xcf a))).getD (0,0,[])).snd.snd
def xnH (a:LA):=(xnI a).getD (0,[])
def xnG (a:LA):=Iter (xaO a (↑a.length:Int) 0 3 3) (1,(xnH a).fst,xcf a,((a.getD 0 .top).cells.getD 1 .top).toInt,((a.getD 0 .top).cells.getD 2 .top).toStr,[AV.int .i64 (xcf a),AV.int .i64 ((a.getD 0 .top).cells.getD 1 .top).toInt,AV.int .i64 (↑((a.getD 0 .top).cells.getD 2 .top).toStr.length:Int)],(xnH a).snd)
def xnF (a:LA):=(xnG a).getD (0,0,0,[],[])
def xnE (a:LA):=(xnF a).snd.snd.snd
def xnD (a:LA):=xaj (xnE a).fst (xnF a).fst (xnE a).snd
def xnC (a:LA):=((xnD a).getD (0,0,[])).snd
def xnB (a:LA):=Iter (xcw a (↑a.length:Int)) (1,(xnC a).fst,(xnC a).snd)
def xnA (a:LA):=(xnB a).getD (0,[])
def xgM (a:LA):=(xnA a).snd
def xpf {T:Type} (a:LA) (δ:T) (κ:List UInt8->T):T:=br (decide (0<(↑a.length:Int))) (br (decide (0<(↑a.length:Int))) (br (decide (0<a.length)&&((a.getD 0 .top).cells.length==3&&xMR [Sh.int .i64,Sh.int .i64,Sh.str] (a.getD 0 .top).cells 0)) (br (decide ((-9223372036854775808)<=xcf a)&&decide (xcf a<=9223372036854775807)) (br ((xaq (Lib.itoa (xcf a))).isSome) (br ((xnI a).isSome) (br ((xnG a).isSome) (br ((xnD a).isSome) (br ((xnB a).isSome) (br (decide ((xnA a).fst=(xgM a).length)&&isBytes (xgM a)&&decide ((xgM a).length≠0)) (κ (strOf (xgM a))) δ) δ) δ) δ) δ) δ) δ) δ) δ) (κ ([]))
def xhP (a:LA):=xpf a none some
def xE7:EO:=xE6.f Tryz.func130 37 0 [] [(6,xgL.lp),(3,xqn.lp)] (lks (lkC xqn.ok (lkC xgL.ok lkN))) (u1 (uL 3)) (fun (a,_) _=>xpf a) (fun _ p=>AV.str p) []
def xfz (b:Int) (a:LA):=((a.getD (0+b.toNat) .top).cells.getD 0 .top).toInt
def xnT (d:Int) (c:Nat) (b a:LA):=((xaj (Lib.itoa (xfz d b)) c a).getD (0,0,[])).snd
def xnS (d:Int) (c:Nat) (b a:LA):=xcJ 32 (xnT d c b a).fst (xnT d c b a).snd
def xnR (d:Int) (c:Nat) (b a:LA):=(xnS d c b a).getD (0,[])
def xo8 {T:Type} (k:LA) (l j:Int) (e:Nat) (i c:Int) (d:Nat) (f g:Int) (h:List UInt8) (a b:LA) (δ:T) (κl:(Int×Nat×Int×Int×List UInt8×LA×LA)->T) (κr:(Nat×Int×Int×List UInt8×LA)->T):T:=br (decide (c<i)) (br (decide (0<=c)&&decide (c<(↑e:Int))) (br (decide (0+c.toNat<a.length)&&xMK (Sh.int .i64) ((a.getD (0+c.toNat) .top).cells.getD 0 .top)) (br (decide ((-9223372036854775808)<=xfz c a)&&decide (xfz c a<=9223372036854775807)) (br ((xaj (Lib.itoa (xfz c a)) d b).isSome) (br ((xnS c d a b).isSome) (κl (i64.wrap (c+1),(xnR c d a b).fst,f,g,h,a,(xnR c d a b).snd)) δ) δ) δ) δ) δ) (κr (d,f,g,h,b))
def xhl (k:LA) (l e:Int) (c:Nat) (f:Int):StT (Int×Nat×Int×Int×List UInt8×LA×LA) (Nat×Int×Int×List UInt8×LA):=fun (g,d,h,i,j,b,a)=>xo8 k l e c f g d h i j b a none inL inR
def xfy:=xE7.l 37 0 [] [] Tryz.f31 1 lk0 [3,5,8,9,10,21,22,23] [3,5,8,9,10] [] (q8 (xNH 0 0 0 0) (xNH 1 0 0 0) (qL 3) qI qI (xNG 2 0 0) qI qI) (q4 (xNJ 0 2 98 false false (q1 (xNI (q2 (xNH 0 0 0 0) (xNG 3 0 0))))) (qB 0 3 86 (q1 (xNI (q3 qI qI pStr)))) (qB 0 1 3 xNy) (qB 0 1 5 xNy)) (fun (_,_,k,m,e,c,f,g,_) (((_,d,_),_),((h,i,j,_),_),b,a,_)=>(xhl k m e c f,(g,d,h,i,j,b,a),fun p=>(.leaf (.exit 2) [AV.own 0 0 0 0,AV.own 1 0 0 0,AV.list 3 k,AV.int .i64 m,AV.int .i64 e] [⟨0,2,98,[AV.agg [AV.own 0 0 0 0,AV.osl 2 0 0 p.1]],false,false⟩,bF 0 3 86 [AV.agg [AV.int .i64 p.2.1,AV.int .i64 p.2.2.1,AV.str p.2.2.2.1]],bF 0 1 5 p.2.2.2.2]))) (0,0,0,[],[]) fun (_,_,k,m,e,c,f,_,_) _ (g,d,h,i,j,b,a)=>((((),(),k,m,e,c,f,g,()),((((),d,()),()),((h,i,j,()),()),b,a,())),xo8 k m e c f g d h i j b a none)
def xnQ (b:LA) (e a:Int) (d:Nat) (c:LA):=Iter (xhl b e a 3 3) (0,d,(gC b a 0).toInt,(gC b a 1).toInt,(gC b a 2).toStr,[AV.int .i64 (gC b a 0).toInt,AV.int .i64 (gC b a 1).toInt,AV.int .i64 (↑(gC b a 2).toStr.length:Int)],c)
def xnP (d:LA) (e c:Int) (b:Nat) (a:LA):=(xnQ d e c b a).getD (0,0,0,[],[])
def xnO (d:LA) (e c:Int) (b:Nat) (a:LA):=(xnP d e c b a).snd.snd.snd
def xnN (d:LA) (e c:Int) (b:Nat) (a:LA):=xaj (xnO d e c b a).fst (xnP d e c b a).fst (xnO d e c b a).snd
def xnM (d:LA) (e c:Int) (b:Nat) (a:LA):=((xnN d e c b a).getD (0,0,[])).snd
def xo7 {T:Type} (d:LA) (e b:Int) (c:Nat) (a:LA) (δ:T) (κl:(Int×Nat×LA)->T) (κr:(Nat×LA)->T):T:=br (decide (b<e)) (br (ixI d b) (br (ixT d b 3 [Sh.int .i64,Sh.int .i64,Sh.str] 0) (br ((xnQ d e b c a).isSome) (br ((xnN d e b c a).isSome) (κl (i64.wrap (b+1),(xnM d e b c a).fst,(xnM d e b c a).snd)) δ) δ) δ) δ) (κr (c,a))
def xmb (d:LA) (e:Int):StT (Int×Nat×LA) (Nat×LA):=fun (c,b,a)=>xo7 d e c b a none inL inR
def xnL:=xE7.l 37 0 [] [(6,xfy.lp)] Tryz.f31 0 (lk1 xfy.ok) [3,8,9,10] [3] [] (q4 (xNH 0 0 0 0) (qL 3) qI qI) (q2 (xNJ 0 2 98 false false (q1 (xNI (q2 (xNH 0 0 0 0) (xNG 1 0 0))))) (qB 0 1 5 xNy)) (fun (_,d,e,c,_) (((_,b,_),_),a,_)=>(xmb d e,(c,b,a),fun p=>(.leaf (.exit 0) [AV.own 0 0 0 0] [⟨0,2,98,[AV.agg [AV.own 0 0 0 0,AV.osl 1 0 0 p.1]],false,false⟩,bF 0 1 5 p.2]))) (0,[]) fun (_,d,e,_,_) _ (c,b,a)=>((((),d,e,c,()),((((),b,()),()),a,())),xo7 d e c b a none)
def xcg (a:LA):=((a.getD 0 .top).cells.getD 0 .top).toInt
def xrG (a:LA):=xeF 32 ((xaq (Lib.itoa (xcg a))).getD (0,0,[])).snd.fst ((xaq (Lib.itoa (xcg a))).getD (0,0,[])).snd.snd
def xrF (a:LA):=(xrG a).getD (0,[])
def xrE (a:LA):=Iter (xhl a (↑a.length:Int) 0 3 3) (1,(xrF a).fst,xcg a,((a.getD 0 .top).cells.getD 1 .top).toInt,((a.getD 0 .top).cells.getD 2 .top).toStr,[AV.int .i64 (xcg a),AV.int .i64 ((a.getD 0 .top).cells.getD 1 .top).toInt,AV.int .i64 (↑((a.getD 0 .top).cells.getD 2 .top).toStr.length:Int)],(xrF a).snd)
def xrD (a:LA):=(xrE a).getD (0,0,0,[],[])
def xrC (a:LA):=(xrD a).snd.snd.snd
def xrB (a:LA):=xaj (xrC a).fst (xrD a).fst (xrC a).snd
def xrA (a:LA):=((xrB a).getD (0,0,[])).snd
def xrz (a:LA):=Iter (xmb a (↑a.length:Int)) (1,(xrA a).fst,(xrA a).snd)
def xry (a:LA):=(xrz a).getD (0,[])
def xhz (a:LA):=(xry a).snd
def xsb {T:Type} (a:LA) (δ:T) (κ:List UInt8->T):T:=br (decide (0<(↑a.length:Int))) (br (decide (0<(↑a.length:Int))) (br (decide (0<a.length)&&((a.getD 0 .top).cells.length==3&&xMR [Sh.int .i64,Sh.int .i64,Sh.str] (a.getD 0 .top).cells 0)) (br (decide ((-9223372036854775808)<=xcg a)&&decide (xcg a<=9223372036854775807)) (br ((xaq (Lib.itoa (xcg a))).isSome) (br ((xrG a).isSome) (br ((xrE a).isSome) (br ((xrB a).isSome) (br ((xrz a).isSome) (br (decide ((xry a).fst=(xhz a).length)&&isBytes (xhz a)&&decide ((xhz a).length≠0)) (κ (strOf (xhz a))) δ) δ) δ) δ) δ) δ) δ) δ) δ) (κ ([]))
def xfU (a:LA):=xsb a none some
def xLw:EO:=xE7.f Tryz.func31 37 0 [] [(6,xfy.lp),(3,xnL.lp)] (lks (lkC xnL.ok (lkC xfy.ok lkN))) (u1 (uL 3)) (fun (a,_) _=>xsb a) (fun _ p=>AV.str p) []
def xiG (x:Int):Bool:=((x != x))
def xDL {T:Type} (x:Int) (δ:T) (κ:Bool->T):T:=κ (x != x)
def xLy:EO:=xLw.fT Tryz.func135 6 0 [] [] lk0 (fun (x,_)=>xDL x none) (u1 uI) (fun (x,_)=>xiG x) (fun _ p=>(AV.bool p))
def xhg (x y:Int):Int:=(br (xiG x) (br (xiG y) ((0)) (((-1)))) (br (xiG y) ((1)) (br (decide (x<y)) (((-1))) (br (decide (x>y)) ((1)) ((0))))))
def xBz {T:Type} (x y:Int) (δ:T) (κ:Int->T):T:=br (xiG x) (br (xiG y) (κ (0)) (κ ((-1)))) (br (xiG y) (κ (1)) (br (decide (x<y)) (κ ((-1))) (br (decide (x>y)) (κ (1)) (κ (0)))))
def xE8:EO:=xLy.fT Tryz.func103 20 0 [] [] lk0 (fun (x,y,_)=>xBz x y none) (u2 uI uI) (fun (x,y,_)=>xhg x y) (fun _ p=>(AV.int .i64 p))
def xks:Env:=xE8.E.fn 18 0 (lsOf []) (xM7 [])
theorem xCl:xMM P0 (xNs.at 0) xks:=xE8.ok.fn
theorem xy1:LoOk P0 (xNs.at xks.pin) xks (Tryz.f102.body.getD .skip):=xho (ls:=[xMQ Tryz.f102 0]) (by kernel_rfl) (fun l a lp b=>by
 simp only [zC,List.not_mem_nil,or_false] at a;rcases a with rfl
 . rw [show xks.lp (xMx (xMQ Tryz.f102 0))=none by kernel_rfl] at b
   simp at b)
def xr7 (a b c:Int):Int:=(br (a != 0) ((a)) (br (b != 0) ((b)) (br (c != 0) ((c)) ((0)))))
def xy2 (a b c:Int):Bool:=true
def xCm {T:Type} (a b c:Int) (δ:T) (κ:Int->T):T:=br (a != 0) (κ (a)) (br (b != 0) (κ (b)) (br (c != 0) (κ (c)) (κ (0))))
theorem xIc (a b c:Int):Pre (xy2 a b c) (XF P0 xks Tryz.f102 (Tryz.f102.body.getD .skip) [AV.list 1 [AV.int .i64 a,AV.int .i64 b,AV.int .i64 c]]) (AV.int .i64 (xr7 a b c)):=by
 have h:XF P0 xks Tryz.f102 (Tryz.f102.body.getD .skip) [AV.list 1 [AV.int .i64 a,AV.int .i64 b,AV.int .i64 c]]=xCm a b c none (fun (p:Int)=>some ((AV.int .i64 p):AV)):=by kernel_rfl
 rw [h];unfold xr7 xy2 xCm;repeat' (first|exact Pre.none|exact Pre.tt rfl|exact Pre.some rfl|refine Pre.l ?_|refine Pre.r ?_|refine Pre.br (f:=fun (p:Int)=>((AV.int .i64 p):AV)) ?_ ?_|refine Pre.brt (f:=fun (p:Int)=>((AV.int .i64 p):AV)) ?_ ?_)
def xIb:LA->Option (Bool×AV):=ocOf (xNu (xNK 1 (xNt (pInt .i64) (xNt (pInt .i64) (xNt (pInt .i64) xNv)))) xNw) fun ((a,(b,(c,_))),_)=>(true,(AV.int .i64 (xr7 a b c)))
theorem xIa:OcOk P0 xNs 102 (xIb):=xnl fun e h f=>by
 obtain ⟨⟨a,⟨b,⟨c,_⟩⟩⟩,_⟩:=e;obtain ⟨g,d⟩:=Prod.mk.inj f;refine xhm (p:=xks.pin) (xlk xMV (xMW P0 _) rfl xCl Tryz.func102 rfl (by kernel_rfl) xy1 ((Pre.get (xIc _ _ _) rfl).trans ?_))
 exact congrArg some d
def xLz:EO:=xE8.w xIa
def xaS (a b:Int) (c:List UInt8) (d e:Int) (f:List UInt8):Int:=((xr7 (xhg a d) (xhg b e) (Lib.compareBytes c f)))
def xzT {T:Type} (a b:Int) (c:List UInt8) (d e:Int) (f:List UInt8) (δ:T) (κ:Int->T):T:=κ (xr7 (xhg a d) (xhg b e) (Lib.compareBytes c f))
def xI6:EO:=xLz.fT Tryz.func112 22 0 [] [] lk0 (fun ((a,b,c,_),(d,e,f,_),_)=>xzT a b c d e f none) (u2 (xNL (u3 uI uI (sEq pStr))) (xNL (u3 uI uI (sEq pStr)))) (fun ((a,b,c,_),(d,e,f,_),_)=>xaS a b c d e f) (fun _ p=>(AV.int .i64 p))
def xbw (c b:LA) (a:Int):=xaS (gC b a 0).toInt (gC b a 1).toInt (gC b a 2).toStr (gC c a 0).toInt (gC c a 1).toInt (gC c a 2).toStr
def xbI {T:Type} (e c b:LA) (d a:Int) (δ:T) (κl:(Int)->T) (κr:(Bool×(Int)×(Unit))->T):T:=br (decide (a<d)) (br (ixI b a) (br (ixT b a 3 [Sh.int .i64,Sh.int .i64,Sh.str] 0) (br (decide (a>=c.length)) (κr (true,(1),())) (br (ixI c a) (br (ixT c a 3 [Sh.int .i64,Sh.int .i64,Sh.str] 0) (br (xbw c b a != 0) (κr (true,(xbw c b a),())) (κl (i64.wrap (a+1)))) δ) δ)) δ) δ) (κr (false,0,()))
def xar (d e a:LA) (b:Int):StT (Int) (Bool×(Int)×(Unit)):=fun (c)=>xbI d e a b c none inL inR
def xk5:=xI6.l 39 0 [] [] Tryz.f111 0 lk0 [0,1,2,11,12,13] [0,1,6] [] (q6 (qL 3) (qL 3) (xM8 112 xNv) (qL 3) qI qI) xNv (fun (d,e,_,a,b,c,_) _=>(xar d e a b,(c),fun p=>(.node p.1 (.leaf .ret [AV.list 3 d,AV.list 3 e,AV.int .i64 p.2.1] []) (.leaf (.exit 0) [AV.list 3 d,AV.list 3 e,.top] [])))) (false,0,()) fun (d,e,_,a,b,_,_) _ (c)=>(((d,e,(),a,b,c,()),()),xbI d e a b c none)
def xjn {T:Type} (a b:LA) (δ:T) (κ:Int->T):T:=br ((Iter (xar a b a (↑a.length:Int)) 0).isSome) (br (((Iter (xar a b a (↑a.length:Int)) 0).getD (false,0,())).fst) (κ (((Iter (xar a b a (↑a.length:Int)) 0).getD (false,0,())).snd.fst)) (br (decide ((↑a.length:Int)<(↑b.length:Int))) (κ ((-1))) (κ (0)))) δ
def xk4 (a b:LA):=xjn a b none some
def xLA:EO:=xI6.f Tryz.func111 39 0 [] [(2,xk5.lp)] (lk1 xk5.ok) (u3 (uL 3) (uL 3) (sEq (xM8 (112:FuncId) xNv))) (fun (a,b,_,_) _=>xjn a b) (fun _ p=>AV.int .i64 p) 0
def xo0 {T:Type} (a b:LA) (δ:T) (κ:Int->T):T:=br ((xk4 a b).isSome) (κ ((xk4 a b).getD 0)) δ
def xgK (a b:LA):=xo0 a b none some
def xLB:EO:=xLA.f Tryz.func75 8 0 [] [] lk0 (u2 (uL 3) (uL 3)) (fun (a,b,_) _=>xo0 a b) (fun _ p=>AV.int .i64 p) 0
def xmJ {T:Type} (a c b d:LA) (δ:T) (κ:Int->T):T:=br ((xgK a b).isSome) (κ ((xgK a b).getD 0)) δ
def xfT (c a d b:LA):=xmJ c a d b none some
def xBV:EO:=xLB.f Tryz.func132 10 0 [] [] lk0 (u2 (xNL (u2 (uL 3) (uL 2))) (xNL (u2 (uL 3) (uL 2)))) (fun ((c,a,_),(d,b,_),_) _=>xmJ c a d b) (fun _ p=>AV.int .i64 p) 0
def xcE (a:Nat) (j:Int):=decide (0<=i64.wrap (j - 1))&&decide (i64.wrap (j - 1)<(↑a:Int))
def xbo (j:Int):Nat:=0+(i64.wrap (j - 1)).toNat
def xcF (a:Nat) (j:Int):=decide (0<=j)&&decide (j<(↑a:Int))
def xfd (j:Int) (a:LA):=decide (0+j.toNat<a.length)
def xfb (j:Int) (a:LA):=xfd j a&&((a.getD (0+j.toNat) .top).cells.length==2&&xMR [Sh.list 3,Sh.list 2] (a.getD (0+j.toNat) .top).cells 0)
def xav (j:Int) (a:LA):=(a.getD (xbo j) .top).cells
def xe9 (j:Int) (a:LA):=decide (xbo j<a.length)&&((xav j a).length==2&&xMR [Sh.list 3,Sh.list 2] (xav j a) 0)
def xfa (j:Int) (a:LA):=xfT ((a.getD (0+j.toNat) .top).cells.getD 0 .top).toList ((a.getD (0+j.toNat) .top).cells.getD 1 .top).toList ((xav j a).getD 0 .top).toList ((xav j a).getD 1 .top).toList
def xfc (j:Int) (a:LA):=a.set (0+j.toNat) (AV.agg [AV.list 3 ((xav j a).getD 0 .top).toList,AV.list 2 ((xav j a).getD 1 .top).toList])
def xfr {T:Type} (d:Nat) (a b i j:Int) (c:LA) (δ:T) (κl:(Int×LA)->T) (κr:(LA)->T):T:=br (decide (j>a)) (br (xcF d j) (br (xfb j c) (br (xcE d j) (br (xe9 j c) (br ((xfa j c).isSome) (br (decide ((xfa j c).getD 0<0)) (br (xcE d j) (br (xe9 j c) (br (xcF d j) (br (xfb j c) (br (xcF d j) (br (xfd j c) (br (xcE d j) (br (decide (xbo j<(xfc j c).length)) (κl (i64.wrap (j - 1),(xfc j c).set (xbo j) (AV.agg [AV.list 3 ((c.getD (0+j.toNat) .top).cells.getD 0 .top).toList,AV.list 2 ((c.getD (0+j.toNat) .top).cells.getD 1 .top).toList]))) δ) δ) δ) δ) δ) δ) δ) δ) (κr (c))) δ) δ) δ) δ) δ) (κr (c))
def xa1 (d:Nat) (a b i:Int):StT (Int×LA) (LA):=fun (j,c)=>xfr d a b i j c none inL inR
def xbn:=xBV.l 53 1 [141] [] Tryz.f183 1 lk0 [0,1,2,3,8,9] [0,1,2,3,8] [] (q6 (xNG 0 0 0) qI qI (xM8 132 xNv) qI qI) (q1 (qB 0 2 141 xNy)) (fun (c,a,b,_,i,j,_) (d,_)=>(xa1 c a b i,(j,d),fun p=>(.leaf (.exit 2) [AV.osl 0 0 0 c,AV.int .i64 a,AV.int .i64 b,AV.func 132 [],AV.int .i64 i] [bF 0 2 141 p]))) [] fun (c,a,b,_,i,_,_) _ (j,d)=>(((c,a,b,(),i,j,()),(d,())),xfr c a b i j d none)
def xfq {T:Type} (d:Nat) (a b i:Int) (c:LA) (δ:T) (κl:(Int×LA)->T) (κr:(LA)->T):T:=br (decide (i<b)) (br ((Iter (xa1 d a b i) (i,c)).isSome) (κl (i64.wrap (i+1),(Iter (xa1 d a b i) (i,c)).getD [])) δ) (κr (c))
def xa0 (d:Nat) (a b:Int):StT (Int×LA) (LA):=fun (i,c)=>xfq d a b i c none inL inR
def xe8:=xBV.l 53 1 [141] [(4,xbn.lp)] Tryz.f183 0 (lk1 xbn.ok) [0,1,2,3,8] [] [] (q5 (xNG 0 0 0) qI qI (xM8 132 xNv) qI) (q1 (qB 0 2 141 xNy)) (fun (d,a,b,_,i,_) (c,_)=>(xa0 d a b,(i,c),fun p=>(.leaf (.exit 0) [] [bF 0 2 141 p]))) [] fun (d,a,b,_,_,_) _ (i,c)=>(((d,a,b,(),i,()),(c,())),xfq d a b i c none)
def xdO {T:Type} (n:Nat) (a b:Int) (c:LA) (δ:T) (κ:LA->T):T:=br ((Iter (xa0 n a b) (i64.wrap (a+1),c)).isSome) (κ ((Iter (xa0 n a b) (i64.wrap (a+1),c)).getD [])) δ
def xaN (n:Nat) (a b:Int) (c:LA):=xdO n a b c none some
def xBW:EO:=xBV.fM Tryz.func183 53 1 [141] [(4,xbn.lp),(1,xe8.lp)] (lks (lkC xe8.ok (lkC xbn.ok lkN))) (u4 (sEq (xNG 0 0 0)) uI uI (sEq (xM8 (132:FuncId) xNv))) (q1 (qB 0 2 141 xNy)) (fun (n,a,b,_,_) (c,_) _=>xdO n a b c) (fun _ _ p=>(AV.tuple [],([bF 0 2 141 p]:List Box))) []
def xeU {T:Type} (d:Nat) (n e a b:Int) (c:LA) (δ:T) (κl:(Int×Int×LA)->T) (κr:(Int×LA)->T):T:=br (decide (b<=n)) (br ((xaN d a b c).isSome) (κl (b,i64.wrap (b+e),(xaN d a b c).getD [])) δ) (κr (a,c))
def xbe (e:Nat) (n c:Int):StT (Int×Int×LA) (Int×LA):=fun (a,b,d)=>xeU e n c a b d none inL inR
def xcG:=xBW.l 63 1 [141] [] Tryz.f153 0 lk0 [0,1,2,6,7,8] [0,1,2,6,7] [] (q6 (xNG 0 0 0) qI (xM8 132 xNv) qI qI qI) (q1 (qB 0 2 141 xNy)) (fun (d,n,_,c,a,b,_) (e,_)=>(xbe d n c,(a,b,e),fun p=>(.leaf (.exit 0) [AV.osl 0 0 0 d,AV.int .i64 n,AV.func 132 [],AV.int .i64 c,AV.int .i64 p.1] [bF 0 2 141 p.2]))) (0,[]) fun (d,n,_,c,_,_,_) _ (a,b,e)=>(((d,n,(),c,a,b,()),(e,())),xeU d n c a b e none)
def xiK {T:Type} (d:Nat) (n e a b:Int) (c:LA) (δ:T) (κl:(Int×Int×LA)->T) (κr:(Int×LA)->T):T:=br (decide (b<=n)) (br (decide (0+d<=c.length)&&true) δ δ) (κr (a,c))
def xg4 (e:Nat) (n c:Int):StT (Int×Int×LA) (Int×LA):=fun (a,b,d)=>xiK e n c a b d none inL inR
def xcH:=xBW.l 63 1 [141] [(2,xcG.lp)] Tryz.f153 2 lk0 [0,1,2,6,7,8] [0,1,2,6,7] [] (q6 (xNG 0 0 0) qI (xM8 132 xNv) qI qI qI) (q1 (qB 0 2 141 xNy)) (fun (d,n,_,c,a,b,_) (e,_)=>(xg4 d n c,(a,b,e),fun p=>(.leaf (.exit 4) [AV.osl 0 0 0 d,AV.int .i64 n,AV.func 132 [],AV.int .i64 c,AV.int .i64 p.1] [bF 0 2 141 p.2]))) (0,[]) fun (d,n,_,c,_,_,_) _ (a,b,e)=>(((d,n,(),c,a,b,()),(e,())),xiK d n c a b e none)
def xiq (c:Nat) (n a:Int) (b:LA):=Iter (xg4 c n a) (0,i64.wrap (2*a),b)
def xip (c:Nat) (n a:Int) (b:LA):=(xiq c n a b).getD (0,[])
def xio (c:Nat) (n a:Int) (b:LA):=(xip c n a b).snd
def xeV {T:Type} (c:Nat) (n a:Int) (b:LA) (δ:T) (κl:(Int×LA)->T) (κr:(LA)->T):T:=br (decide (a<n)) (br ((xiq c n a b).isSome) (br (decide (i64.wrap ((xip c n a b).fst+a)<n)) (br (decide (0+c<=(xio c n a b).length)&&true) δ δ) (κl (i64.wrap (a*2),xio c n a b))) δ) (κr (b))
def xb7 (c:Nat) (n:Int):StT (Int×LA) (LA):=fun (a,b)=>xeV c n a b none inL inR
def xin:=xBW.l 63 1 [141] [(2,xcG.lp),(9,xcH.lp)] Tryz.f153 1 (lk1 xcH.ok) [0,1,2,6] [] [] (q4 (xNG 0 0 0) qI (xM8 132 xNv) qI) (q1 (qB 0 2 141 xNy)) (fun (c,n,_,a,_) (b,_)=>(xb7 c n,(a,b),fun p=>(.leaf (.exit 2) [] [bF 0 2 141 p]))) [] fun (c,n,_,_,_) _ (a,b)=>(((c,n,(),a,()),(b,())),xeV c n a b none)
def xfO (n:Nat) (k:Int) (a:LA):=(Iter (xbe n k 20) (0,20,a)).getD (0,[])
def xfN (n:Nat) (k:Int) (a:LA):=xaN n (xfO n k a).fst k (xfO n k a).snd
def xfM (n:Nat) (k:Int) (a:LA):=Iter (xb7 n k) (20,(xfN n k a).getD [])
def xgc {T:Type} (n:Nat) (k:Int) (a:LA) (δ:T) (κ:LA->T):T:=br ((Iter (xbe n k 20) (0,20,a)).isSome) (br ((xfN n k a).isSome) (br ((xfM n k a).isSome) (κ ((xfM n k a).getD [])) δ) δ) δ
def xeM (n:Nat) (k:Int) (a:LA):=xgc n k a none some
def xLC:EO:=xBW.fM Tryz.func153 63 1 [141] [(2,xcG.lp),(9,xcH.lp),(7,xin.lp)] (lks (lkC xcG.ok (lkC xin.ok (lkC xcH.ok lkN)))) (u3 (sEq (xNG 0 0 0)) uI (sEq (xM8 (132:FuncId) xNv))) (q1 (qB 0 2 141 xNy)) (fun (n,k,_,_) (a,_) _=>xgc n k a) (fun _ _ p=>(AV.tuple [],([bF 0 2 141 p]:List Box))) []
def xfL {T:Type} (n:Nat) (a:LA) (δ:T) (κ:LA->T):T:=br ((xeM n (↑n:Int) a).isSome) (κ ((xeM n (↑n:Int) a).getD [])) δ
def xgA (n:Nat) (a:LA):=xfL n a none some
def xI7:EO:=xLC.fM Tryz.func131 9 1 [141] [] lk0 (u2 (sEq (xNG 0 0 0)) (sEq (xM8 (132:FuncId) xNv))) (q1 (qB 0 2 141 xNy)) (fun (n,_,_) (a,_) _=>xfL n a) (fun _ _ p=>(AV.tuple [],([bF 0 2 141 p]:List Box))) []
def xdS (b:LA) (c:Int) (a:LA):=a++[AV.agg [AV.list 3 (gC b c 0).toList,AV.list 2 []]]
def xa8 (a:Nat):Nat:=0+(↑a:Int).toNat
def xbJ (a:LA) (b:Int):=(xhP (gC a b 0).toList).getD []
def xgd (d:LA) (f:Int) (b:Nat) (e:Int) (c a:LA):=decide (xa8 b<(xdS d e a).length)
def xge (d:LA) (e:Int) (a:Nat) (f:Int) (b c:LA):=decide ((↑a:Int)<(↑(a+1):Int))
def xaD (c:LA) (b:Nat) (d:Int) (a:LA):=((xdS c d a).getD (xa8 b) .top).cells
def xfu (a:LA) (b:Int):=decide ((xbJ a b).length<=4611686018427387904)
def xdT (b:LA) (c:Int) (a:LA):=(xM3 (AV.int .i64 0) a (xbJ b c)).toInt
def xgf (c:LA) (b:Nat) (d:Int) (a:LA):=decide (0<=xdT c d a)&&decide (xdT c d a<(↑b:Int))
def xao (c:LA) (b:Nat) (d:Int) (a:LA):=((xaD c b d a).getD 1 .top).toList.length
def xak (b:LA) (c:Int) (a:LA):Nat:=0+(xdT b c a).toNat
def xft (a:LA) (d:Nat) (b:Int) (c:LA):=((xaD a d b c).getD 1 .top).toList++[AV.agg [AV.int .i64 (gC a b 1).toInt,AV.int .i64 (gC a b 2).toInt]]
def xeg (c:LA) (b:Nat) (d:Int) (a:LA):=(xdS c d a).set (xa8 b) (AV.agg (List.take 1 (xaD c b d a)++[AV.int .i64 (↑(xao c b d a):Int)]++List.drop 2 (xaD c b d a)))
def xgg (c:LA) (d:Int) (a b:LA):=decide (xak c d a<b.length)
def xap (c:LA) (d:Int) (a b:LA):=((b.getD (xak c d a) .top).cells.getD 1 .top).toList.length
def xfs (b:LA) (c:Int) (a d:LA):=((d.getD (xak b c a) .top).cells.getD 1 .top).toList++[AV.agg [AV.int .i64 (gC b c 1).toInt,AV.int .i64 (gC b c 2).toInt]]
def xcS (c:LA) (a:Nat) (d:Int) (b:LA):=((xeg c a d b).getD (xa8 a) .top).cells
def xeh (c:LA) (d:Int) (a b:LA):=b.set (xak c d a) (AV.agg (List.take 1 (b.getD (xak c d a) .top).cells++[AV.int .i64 (↑(xap c d a b):Int)]++List.drop 2 (b.getD (xak c d a) .top).cells))
def xcT (c:LA) (d:Int) (a b:LA):=((xeh c d a b).getD (xak c d a) .top).cells
def xds {T:Type} (d:LA) (f:Int) (e:Nat) (c:Int) (b a:LA) (δ:T) (κl:(Nat×Int×LA×LA)->T) (κr:(Nat×LA)->T):T:=br (decide (c<f)) (br (ixI d c) (br (ixT d c 3 [Sh.list 3,Sh.int .i64,Sh.int .i64] 0) (br (!xcl (gC d c 1).toInt (gC d c 2).toInt) (κl (e,i64.wrap (c+1),b,a)) (br ((xhP (gC d c 0).toList).isSome) (br (xfu d c&&xMK (Sh.int .i64) (xM3 (AV.int .i64 0) b (xbJ d c))) (br (!xNf b (xbJ d c)) (br (decide (b.length<4611686018427387904)&&xfu d c) (br (rmB e a 1 48) (br (xge d f e c b a) (br (xgd d f e c b a&&(xNq 2 ((xaD d e c a).getD 1 .top)&&(xaD d e c a).length==2)) (br (xgd d f e c b a&&(xNq 2 ((xaD d e c a).getD 1 .top)&&((xaD d e c a).length==2&&(2*xao d e c a==2*xao d e c a&&(xao d e c a==xao d e c a&&(xao d e c a==xao d e c a&&(decide ((xao d e c a+1)*16<=140737488355328)&&decide (xao d e c a+1<=4611686018427387904)))))))) (br (xge d f e c b a) (br (decide (xa8 e<(xeg d e c a).length)&&((xcS d e c a).length==2&&(xao d e c a+1==(xft d e c a).length&&xNO ((xcS d e c a).getD 1 .top) (xao d e c a+1)))) (κl (e+1,i64.wrap (c+1),xM1 b (xbJ d c) (AV.int .i64 (↑e:Int)),(xeg d e c a).set (xa8 e) (AV.agg (List.take 1 (xcS d e c a)++[AV.list 2 (xft d e c a)]++List.drop 2 (xcS d e c a))))) δ) δ) δ) δ) δ) δ) δ) (br (xgf d e c b) (br (xgg d c b a&&(xNq 2 ((a.getD (xak d c b) .top).cells.getD 1 .top)&&(a.getD (xak d c b) .top).cells.length==2)) (br (xgg d c b a&&(xNq 2 ((a.getD (xak d c b) .top).cells.getD 1 .top)&&((a.getD (xak d c b) .top).cells.length==2&&(2*xap d c b a==2*xap d c b a&&(xap d c b a==xap d c b a&&(xap d c b a==xap d c b a&&(decide ((xap d c b a+1)*16<=140737488355328)&&decide (xap d c b a+1<=4611686018427387904)))))))) (br (xgf d e c b) (br (decide (xak d c b<(xeh d c b a).length)&&((xcT d c b a).length==2&&(xap d c b a+1==(xfs d c b a).length&&xNO ((xcT d c b a).getD 1 .top) (xap d c b a+1)))) (κl (e,i64.wrap (c+1),b,(xeh d c b a).set (xak d c b) (AV.agg (List.take 1 (xcT d c b a)++[AV.list 2 (xfs d c b a)]++List.drop 2 (xcT d c b a))))) δ) δ) δ) δ) δ)) δ) δ)) δ) δ) (κr (e,a))
def xaX (d:LA) (e:Int):StT (Nat×Int×LA×LA) (Nat×LA):=fun (c,f,a,b)=>xds d e c f a b none inL inR
def xo6:=xI7.l 60 0 [] [] Tryz.f98 0 lk0 [3,4,11,12,13] [4] [(4,2,189114876045)] (q5 (xNH 0 0 0 0) (xNG 1 0 0) (qL 3) qI qI) (q2 (qB 0 2 1208925819615402335928320 xNy) (qB 0 2 189114876045 xNy)) (fun (_,c,d,e,f,_) (a,b,_)=>(xaX d e,(c,f,a,b),fun p=>(.leaf (.exit 0) [AV.osl 0 0 0 p.1] [bF 0 2 189114876045 p.2]))) (0,[]) fun (_,_,d,e,_,_) _ (c,f,a,b)=>((((),c,d,e,f,()),(a,b,())),xds d e c f a b none)
def xmO (l:LA):=Iter (xaX l (↑l.length:Int)) (0,0,[],[])
def xmN (l:LA):=(xmO l).getD (0,[])
def xiQ (l:LA):=(xmN l).fst
def xmM (l:LA):=(xmN l).snd
def xmL (l:LA):=xgA (xiQ l) (xmM l)
def xmK (l:LA):=(xmL l).getD []
def xnJ {T:Type} (l:LA) (δ:T) (κ:LA->T):T:=br ((xmO l).isSome) (br (xNg 2 1 (xmM l)) (br ((xmL l).isSome) (br (decide (0+xiQ l<=(xmK l).length)&&true) (κ (List.take (xiQ l) (List.drop 0 (xmK l)))) δ) δ) δ) δ
def xju (l:LA):=xnJ l none some
def xI8:EO:=xI7.f Tryz.func98 60 0 [] [(4,xo6.lp)] (lk1 xo6.ok) (u1 (uL 3)) (fun (l,_) _=>xnJ l) (fun _ p=>AV.list 2 p) []
end Go.Sim.M
end
