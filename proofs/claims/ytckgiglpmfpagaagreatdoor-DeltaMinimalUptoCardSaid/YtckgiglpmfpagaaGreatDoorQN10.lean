/- Part 10 of the proof of the law. -/
import Derived.Test.YtckgiglpmfpagaaGreatDoorQN9
import Derived.WalkKit
import Derived.BigCall
import Derived.Lib.Strings
import Derived.Lib.Slices
import Derived.Lib.Walk
import Derived.Lib.Builder
import Derived.Lib.UnsafeStr
import Derived.Laws.Externs
import Derived.Laws.IdiomCopy
import Derived.Laws.BitsLemmas
import Derived.RegionTactic
set_option linter.unusedVariables false
set_option linter.unusedSimpArgs false
set_option linter.unnecessarySimpa false
noncomputable section
namespace Go.Proofs
open Go.RowKit Go.Lib
theorem Tryz.lies_builder (n:Nat) (hn:1<=n):liesAt Tryz.prog Tryz.prog.depth 157 n 0 157 1=true:=by
 have hc:Tryz.prog.cellsOf 157=2:=by kernel_rfl
 have hd:Tryz.prog.depth=(2*(Tryz.prog.types.size+Made.depth)+1)+1:=rfl;generalize Tryz.prog=P at *;rw [hd];simp only [liesAt,Bool.or_eq_true];left;rw [hd];simp [rowAt,hc,hn,sameLayout]
set_option maxHeartbeats 2000000 in
set_option maxRecDepth 100000 in
theorem Tryz.copyCheck_used (b:Nat) (w:World) (h0:w.cell? ⟨b,0,none⟩=some (.pointer (some ⟨b,0,none⟩))) :
  Calls Tryz.prog 142 #[.pointer (some ⟨b,0,none⟩)] w fun e w'=>e=.returned (.tuple #[])/\w'=w:=by
 have hsz:(Tryz.prog.info? 157).map (·.size)=some 2:=by kernel_rfl
 obtain ⟨j,hj,_⟩:=Option.map_eq_some_iff.1 hsz;have tp:Tryz.prog.underlying 154=some (.pointer 157):=by kernel_rfl
 go_enter Tryz.func142,Tryz.ntmps142
 go_wp2
 rw [Lib.run_neq_ptr_same w _ tp hj]
 go_wp2
 go_end0
 exact ⟨rfl,rfl⟩
set_option maxHeartbeats 2000000 in
set_option maxRecDepth 100000 in
theorem Tryz.copyCheck_fresh (b n:Nat) (hn:1<=n) (w:World) (h0:w.cell? ⟨b,0,none⟩=some (.pointer none)) (J:w.shape? b=some (157,n*2)) (Q:w.frozen? ⟨b,0,none⟩=false) :
  Calls Tryz.prog 142 #[.pointer (some ⟨b,0,none⟩)] w fun e w'=>e=.returned (.tuple #[])/\w'=w.setCell ⟨b,0,none⟩ (.pointer (some ⟨b,0,none⟩)):=by
 have hsz:(Tryz.prog.info? 157).map (·.size)=some 2:=by kernel_rfl
 obtain ⟨j,hj,O⟩:=Option.map_eq_some_iff.1 hsz;have hc:Tryz.prog.cellsOf 157=2:=by kernel_rfl
 have tp:Tryz.prog.underlying 154=some (.pointer 157):=by kernel_rfl
 have tu:Tryz.prog.underlying 195=some .unsafePointer:=by kernel_rfl
 have q:liesAt Tryz.prog Tryz.prog.depth 157 (n*2 / Tryz.prog.cellsOf 157) 0 157 1=true:=by
  rw [hc,Nat.mul_div_cancel _ (by decide)];exact Tryz.lies_builder n hn
 have c1:=Lib.run_to_unsafe w ⟨b,0,none⟩ tp tu hj (by rw [O];decide) J (show 0<n*2 by omega)
 have c2:=Lib.run_from_unsafe w ⟨b,0,none⟩ tu tp hj J q;clear q
 go_enter Tryz.func142,Tryz.ntmps142
 go_wp2
 rw [run_callFunc_extern Tryz.func161 (by kernel_rfl) (by kernel_rfl) (by kernel_rfl) (e:=Extern.AbiNoEscape.same) (by kernel_rfl)]
 rw [Lib.run_noEscape];simp only [Result.andThen];rw [Oper.upon_value]
 go_wp2
 go_end0
 exact ⟨rfl,rfl⟩
set_option maxHeartbeats 2000000 in
set_option maxRecDepth 100000 in
theorem Tryz.builder_string (b g cap:Nat) (l:List UInt8) (cur:Array Value) (w:World) (hb:w.cell? ⟨b,1,none⟩=some (.slice (some ⟨g,0,none⟩) l.length cap))
  (hg:w.heap[g]?=some (.cells cur 5 (0,0))) (q:∀ j x,l[j]?=some x->w.cell? ((⟨g,0,none⟩:Addr).add j)=some (.int .u8 x.toNat)) (O:l.length<=cur.size) (hcap:cap≠0) (h0:l≠[]) (J:l.length<=9223372036854775807) :
  Calls Tryz.prog 126 #[.pointer (some ⟨b,0,none⟩)] w fun e w'=>e=.returned (.string ⟨l.toArray⟩)/\w'=w.drew.freeze ⟨g,0,none⟩ l.length:=by
 have c1:w.drew.cell? ⟨b,1,none⟩=some (.slice (some ⟨g,0,none⟩) l.length cap):=hb;have U:Tryz.prog.underlying 179=some (.pointer 5):=by kernel_rfl
 have Q:Tryz.prog.cellsOf 5=1:=by kernel_rfl
 have V:(Builtin.unsafeSliceData_ #[155] 179 #[.slice (some ⟨g,0,none⟩) l.length cap]).run Tryz.prog w.drew=.ok (.pointer (some ⟨g,0,none⟩)) w.drew :=
  Lib.run_unsafeSliceData_row _ _ _ _ _ _ hcap
 have Y:(Builtin.unsafeString_ #[179,3] 9 #[.pointer (some ⟨g,0,none⟩),.int .i64 l.length]).run Tryz.prog w.drew=.ok (.string ⟨l.toArray⟩) (w.drew.freeze ⟨g,0,none⟩ l.length) :=
  Lib.run_unsafeString_row w.drew 179 3 9 5 U Q g cur.size (by have hg':w.drew.heap[g]?=some (.cells cur 5 (0,0)):=hg;simp [World.shape?,hg']) l h0 O J q
 clear q
 go_enter Tryz.func126,Tryz.ntmps126
 go_wp2
 go_region
 all_goals (go_wp2;go_ret;exact ⟨rfl,rfl⟩)
set_option maxHeartbeats 2000000 in
set_option maxRecDepth 100000 in
theorem Tryz.builder_string_nil (b:Nat) (w:World) (hb:w.cell? ⟨b,1,none⟩=some (.slice none 0 0)) :
  Calls Tryz.prog 126 #[.pointer (some ⟨b,0,none⟩)] w fun e w'=>e=.returned (.string ⟨#[]⟩)/\w'=w.drew:=by
 have c1:w.drew.cell? ⟨b,1,none⟩=some (.slice none 0 0):=hb;have J:(Builtin.unsafeSliceData_ #[155] 179 #[.slice none 0 0]).run Tryz.prog w.drew=.ok (.pointer none) w.drew:=rfl;have q:=Lib.run_unsafeString_none (P:=Tryz.prog) w.drew 179 3 9 none
 go_enter Tryz.func126,Tryz.ntmps126
 go_wp2
 go_region
 all_goals (go_wp2;go_ret;exact ⟨rfl,rfl⟩)
end Go.Proofs
end
noncomputable section
namespace Go.Sim
open Go.RowKit Go.Proofs
def M.isByte:AV->Bool
 | .int .u8 n=>decide (0<=n)&&decide (n<256)
 | _=>false
def M.isBytes (xs:List AV):Bool:=xs.all M.isByte
def M.strOf (xs:List AV):List UInt8:=xs.map fun x=>UInt8.ofNat x.toInt.toNat
theorem xvt (s:List UInt8):M.strOf (M.byteAVs s)=s:=by
 unfold M.strOf M.byteAVs;rw [List.map_map]
 conv=>rhs;rw [<-List.map_id s]
 exact List.map_congr_left fun u _=>by simp [AV.toInt]
theorem xts (s:List UInt8):M.isBytes (M.byteAVs s)=true:=by
 unfold M.isBytes M.byteAVs;rw [zI];intro x hx;obtain ⟨u,_,rfl⟩:=zK.1 hx;have:=u.toNat_lt;simp only [M.isByte,zf,zl];omega
theorem xqc (s t:List UInt8):M.byteAVs (s++t)=M.byteAVs s++M.byteAVs t:=by simp [M.byteAVs]
theorem xke (s:List UInt8):(M.byteAVs s).length=s.length:=by simp [M.byteAVs]
theorem xzW {x:AV} (h:M.isByte x=true):∃ u:UInt8,x=.int .u8 u.toNat:=by
 unfold M.isByte at h;split at h
 . rename_i n;simp only [zf,zl] at h;refine ⟨UInt8.ofNat n.toNat,?_⟩;have:(UInt8.ofNat n.toNat).toNat=n.toNat:=by rw [UInt8.toNat_ofNat',Nat.mod_eq_of_lt (by omega)]
   rw [this];congr 1;omega
 . simp at h
theorem xv4 (w:World) (g n k:Nat) (h:k≠g):(w.freeze ⟨g,0,none⟩ n).heap[k]?=w.heap[k]?:=by
 unfold World.freeze;split
 . rfl
 . simp [Array.getElem?_modify,Ne.symm h]
theorem xyd (w:World) (g n:Nat):(w.freeze ⟨g,0,none⟩ n).heap.size=w.heap.size:=by
 unfold World.freeze;split
 . rfl
 . simp
theorem xA9 {w w':World} {A:Nat->Prop} {M:Id->Option MB} {B:Nat} {H:List Box} (hR:HR w A M B H) {id:Nat} {m:MB} {bx:Box} (J:0<m.cap) (hm:M (.b id)=some m) (hb:H[id]?=some bx) (Z:isC bx.ty=false) (aa:bx.frz=false) (V:BoxAt w A M B (.b id) m bx) (v:Nat) (hv:m.ver<v) (sz:Nat) (ty:TypeId) (Q:isC ty=false)
  (hs:w'.heap.size=w.heap.size) (hw:∀ b,b≠m.b->w'.heap[b]?=w.heap[b]?) :
  HR w' A (MSet M (.b id) ⟨m.b,v,sz,0,ty⟩) B (H.set id ⟨v,sz,ty,[],false,true⟩)/\Mv w A M w' A (MSet M (.b id) ⟨m.b,v,sz,0,ty⟩):=by
 have Y:A m.b:=(V.guard J).1 aa;have O:MExt M (MSet M (.b id) ⟨m.b,v,sz,0,ty⟩):=xni hm (.inr hv);have hw':∀ b,b<w.heap.size->¬ A b->w'.heap[b]?=w.heap[b]?:=fun b _ hA=>hw b fun e=>hA (e▸Y)
 have hc:∀ {p:Prop},0<(0:Nat)->p:=fun h=>absurd h (by omega)
 have q:∀ i m1,MSet M (.b id) ⟨m.b,v,sz,0,ty⟩ i=some m1->0<m1.cap->i≠.b id/\M i=some m1:=fun i m1 h1 h0=>by
  by_cases hi:i=.b id
  . subst hi;simp [MSet] at h1;subst h1;exact absurd h0 (by simp)
  . exact ⟨hi,by simpa [MSet,hi] using h1⟩
 refine ⟨⟨fun i m1 h1=>?_,fun i i' m1 m2 h1 h2 c1 c2 he=>hR.inj i i' m1 m2 (q i m1 h1 c1).2 (q i' m2 h2 c2).2 c1 c2 he,fun b hb=>by rw [hs];exact hR.lt b hb⟩,⟨by omega,hw',fun _ _ h=>h,fun _ _ h _=>h,O,⟨fun b _ hb=>hw b fun e=>hb (.b id) m hm J e.symm,fun i m1 h1 h0=>.inl ⟨i,m1,(q i m1 h1 h0).2,h0,rfl⟩⟩⟩⟩
 by_cases hi:i=.b id
 . subst hi;have:m1=⟨m.b,v,sz,0,ty⟩:=by simp [MSet] at h1;exact h1.symm
   subst this;exact ⟨⟨v,sz,ty,[],false,true⟩,by rw [xbP,zL (xc0 hb)],rfl,rfl,xbh Q,zQ _,zQ _,fun x hx=>by simp at hx,hc,hc,hc,hc⟩
 . have U:M i=some m1:=by simpa [MSet,hi] using h1
   obtain ⟨ab,g1,g2⟩:=hR.box i m1 U;exact ⟨ab,by rw [xcw hb Z Q hi];exact g1,g2.mono (fun h0=>hw _ fun e=>hi (hR.inj i (.b id) m1 m U hm h0 J e)) hw' (by omega) (fun _ _ h=>h) g2.guard O⟩
theorem xnG {w:World} {A:Nat->Prop} {M:Id->Option MB} {B:Nat} {H:List Box} (hR:HR w A M B H) {v:Value} {a x:AV} {ty:TypeId} {frz pm:Bool} (J:isC ty=false) (hv:Rel w A M v (.own (.b 0) 0 0 0)) (hb:H[0]?=some ⟨0,2,ty,[.agg [a,x]],frz,pm⟩) :
  ∃ m c,M (.b 0)=some m/\BoxAt w A M B (.b 0) m ⟨0,2,ty,[.agg [a,x]],frz,pm⟩/\1<=m.cap/\v=.pointer (some ⟨m.b,0,none⟩)/\w.heap[m.b]?=some (.cells c ty (0,0))/\c.size=m.cap*2/\m.sz=2 /\
   Rel w A (MP M pm) (c.getD 0 undef) a/\Rel w A (MP M pm) (c.getD 1 undef) x/\w.cell? ⟨m.b,0,none⟩=some (c.getD 0 undef)/\w.cell? ⟨m.b,1,none⟩=some (c.getD 1 undef):=by
 obtain ⟨m,hm,q,hp⟩:=xnU hR hv (xmg hb J);have hcap:1<=m.cap:=q.fits;have hsz:m.sz=2:=q.sz.symm;obtain ⟨c,h1,h2,h3⟩:=q.plainCells J (by omega)
 rw [hsz] at h2;have r0:=h3 0 0 (by simp) (by omega)
 have r1:=h3 0 1 (by simp) (by omega)
 have h1:w.heap[m.b]?=some (.cells c ty (0,0)):=h1;have e0:w.cell? ⟨m.b,0,none⟩=some (c.getD 0 undef):=by
  have:0<c.size:=by omega
  simp [World.cell?,h1,this]
 have e1:w.cell? ⟨m.b,1,none⟩=some (c.getD 1 undef):=by
  have:1<c.size:=by omega
  simp [World.cell?,h1,this]
 refine ⟨m,c,hm,q,hcap,by simpa using hp,h1,h2,hsz,by simpa [AV.cells] using r0,by simpa [AV.cells] using r1,e0,e1⟩
def xpI:List AV->List Box->Option (Bool×AV×List Box)
 | [.own (.b 0) 0 0 0],⟨0,2,ty,[.agg [.nilptr,x]],false,pm⟩::r=>match Nat.beq ty 157 with
  | true=>some (true,.tuple [],⟨0,2,ty,[.agg [.own (.b 0) 0 0 0,x]],false,false⟩::r)
  | false=>none
 | [.own (.b 0) 0 0 0],⟨0,2,ty,[.agg [.own (.b 0) 0 0 0,x]],false,pm⟩::r=>match Nat.beq ty 157 with
  | true=>some (true,.tuple [],⟨0,2,ty,[.agg [.own (.b 0) 0 0 0,x]],false,pm⟩::r)
  | false=>none
 | _,_=>none
theorem xw7:OmOk Tryz.prog xHL 142 xpI:=fun xs H r H' h=>by
 unfold xpI at h;split at h
 . rename_i ty x pm rest;split at h
   case h_2=>simp at h
   rename_i J;have J:=zg J;subst J;simp only [z6,zb,true_and] at h;obtain ⟨rfl,rfl⟩:=h;refine ⟨xgn Tryz.func142 rfl (by kernel_rfl),fun w0 w A M vs hI hB hR Q=>?_⟩
   obtain ⟨v,rfl,hv⟩:=rc1 Q;obtain ⟨m,c,hm,q,hcap,rfl,hh,O,hsz,r0,r1,e0,e1⟩:=xnG hR (by rfl) hv rfl
   have hn:c.getD 0 undef=.pointer none:=by
    revert r0;generalize c.getD 0 undef=z;intro r0;cases r0;rfl
   rw [hn] at e0;refine (Tryz.copyCheck_fresh m.b m.cap hcap w e0 (by simp [World.shape?,hh,O]) (Lib.frozen_of_heap hh 0)).mono ?_
   rintro e w' ⟨rfl,rfl⟩;rw [setCell_eq_setRow w m.b 0 c _ _ _ hh];have aa:x.one=true:=by
    have:=q.ok (.agg [.nilptr,x]) (by simp)
    simp only [AV.okElem,AV.cells,List.all_cons,zf] at this;exact this.2.2.1
   have U:(0:Nat)=m.ver:=q.ver;obtain ⟨g1,g2,g3,g4,gt,g5⟩:=xm6 (m':=m) (bx':=⟨0,2,157,[.agg [.own (.b 0) 0 0 0,x]],false,false⟩) hR (by omega) hm rfl q rfl rfl rfl (c':=c.setIfInBounds 0 (.pointer (some ⟨m.b,0,none⟩))) rfl rfl rfl rfl (.inl rfl)
    U (by rw [hsz]) (by have:=q.ty;rw [xbh rfl] at this;exact this) rfl hcap (fun y hy=>by
     simp only [zv] at hy;subst hy;rw [hsz];simp [AV.okElem,AV.cells,aa,show (AV.own (.b 0) 0 0 0).one=true from rfl]) (by rw [hsz];simpa using O) (fun i j hi hj=>by
     have ab:i=0:=by simpa using hi
     subst ab;rw [hsz] at hj |-;have Y:0<c.size:=by omega
     have ac:1<c.size:=by omega
     match j,hj with
     | 0,_ =>
      have:(c.setIfInBounds 0 (.pointer (some ⟨m.b,0,none⟩))).getD (0*2+0) undef=.pointer (some ⟨m.b,0,none⟩):=by simp [Y]
      rw [this];exact .own _ (.b 0) 0 0 0 m hm (by omega) rfl (fun _=>by rw [xkS (q.nomap rfl)];simp)
     | 1,_ =>
      have:(c.setIfInBounds 0 (.pointer (some ⟨m.b,0,none⟩))).getD (0*2+1) undef=c.getD 1 undef:=by simp [Array.getElem?_setIfInBounds]
      rw [this];exact r1.unmp)
   exact ⟨_,A,_,rfl,hB.trans g4,fun _ _=>Iff.rfl,Ev.refl.step ⟨by simp [World.setRow],g3,fun _ _ h=>h,fun _ _ h _=>h,g2,gt⟩,by simpa using g1,.tuple #[] [] rfl (by simp)⟩
 . rename_i ty x pm rest;split at h
   case h_2=>simp at h
   rename_i J;have J:=zg J;subst J;simp only [z6,zb,true_and] at h;obtain ⟨rfl,rfl⟩:=h;refine ⟨xgn Tryz.func142 rfl (by kernel_rfl),fun w0 w A M vs hI hB hR Q=>?_⟩
   obtain ⟨v,rfl,hv⟩:=rc1 Q;obtain ⟨m,c,hm,q,hcap,rfl,hh,O,hsz,r0,r1,e0,e1⟩:=xnG hR (by rfl) hv rfl
   obtain ⟨m',V,Z,hp⟩:=xnU hR r0.unmp (xmg (n:=0) (bx:=⟨0,2,157,[.agg [.own (.b 0) 0 0 0,x]],false,pm⟩) rfl rfl);rw [hm] at V;obtain rfl:=(z6 _ _).mp V;rw [hp] at e0;refine (Tryz.copyCheck_used m.b w (by simpa using e0)).mono ?_
   rintro e w' ⟨rfl,rfl⟩;exact ⟨_,A,M,rfl,hB,fun _ _=>Iff.rfl,Ev.refl,hR,.tuple #[] [] rfl (by simp)⟩
 . simp at h
def xlg:List AV->List Box->Option (Bool×AV×List Box)
 | [.own (.b 0) 0 0 0],[⟨0,2,ty,[.agg [a,.osl (.b 1) u 0 n]],false,pm⟩,⟨u',1,ty',bs,false,pm'⟩]=>match Nat.beq ty 157&&(Nat.beq ty' 5&&Nat.beq u u') with
  | true=>some ((decide (n=bs.length)&&M.isBytes bs)&&decide (bs.length≠0),.str (M.strOf bs),[⟨0,2,ty,[.agg [a,.osl (.b 1) u 0 n]],false,pm⟩,⟨u+1,1,ty',[],false,true⟩])
  | false=>none
 | [.own (.b 0) 0 0 0],⟨0,2,ty,[.agg [a,.nils]],false,pm⟩::r=>match Nat.beq ty 157 with
  | true=>some (true,.str [],⟨0,2,ty,[.agg [a,.nils]],false,pm⟩::r)
  | false=>none
 | _,_=>none
theorem xsB:OmOk Tryz.prog xHL 126 xlg:=fun xs H r H' h=>by
 unfold xlg at h;split at h
 . rename_i ty a u n pm u' am bs ac;split at h
   case h_2=>simp at h
   rename_i O;simp only [zf] at O;obtain ⟨h1,h2,h3⟩:=O;have h1:=zg h1;have h2:=zg h2;have h3:=zg h3;subst h1 h2 h3;simp only [z6,zb,zf,zl] at h;obtain ⟨⟨⟨rfl,ae⟩,hne⟩,rfl,rfl⟩:=h;refine ⟨xgn Tryz.func126 rfl (by kernel_rfl),fun w0 w A MM vs hI hB hR U=>?_⟩
   obtain ⟨v,rfl,hv⟩:=rc1 U;obtain ⟨m,c,hm,ab,hcap,rfl,hh,ad,hsz,r0,r1,e0,e1⟩:=xnG hR (by rfl) hv rfl
   obtain ⟨m1,a1,ag,q,ak,af,ai⟩:=xjT hR r1.unmp (xmg (n:=1) (bx:=⟨u,1,5,bs,false,ac⟩) rfl rfl);have J:0<m1.cap:=by have:=q.fits;simp only at this;omega
   have ha:=ai J;subst ha;obtain ⟨c1,k1,k2,k3⟩:=q.plainCells rfl J;have Q:m1.sz=1:=q.sz.symm;have aj:5=m1.ty:=by have:=q.ty;rw [xbh rfl] at this;exact this
   rw [af] at e1;simp only [Nat.zero_mul,Nat.sub_zero] at e1;have hl:(M.strOf bs).length=bs.length:=by simp [M.strOf]
   have V:∀ j,j<bs.length->∃ uu:UInt8,bs.getD j .top=.int .u8 uu.toNat/\(M.strOf bs)[j]?=some uu/\w.cell? ⟨m1.b,j,none⟩=some (.int .u8 uu.toNat):=fun j hj=>by
    have ah:bs.getD j .top∈bs:=xa2 hj;obtain ⟨uu,hu⟩:=xzW (zI.1 ae _ ah);refine ⟨uu,hu,?_,?_⟩
    . have:bs[j]?=some (bs.getD j .top):=xqg hj;simp only [M.strOf,List.getElem?_map,this,hu,Option.map_some,AV.toInt,zN,UInt8.ofNat_toNat]
    . have hr:=k3 j 0 hj (by omega)
      rw [Q,hu] at hr;simp only [Nat.mul_one,Nat.add_zero,AV.cells,List.getD_cons_zero] at hr;have:=hr.int_inv;have Z:j<c1.size:=by have:=q.fits;simp only at this;rw [k2,Q];omega
      simp only [World.cell?,k1];have e2:c1.getD j undef=c1[j]:=by simp [Z]
      rw [e2] at this;simp [Z,this]
   refine (Tryz.builder_string m.b m1.b m1.cap (M.strOf bs) c1 w (by rw [hl];exact e1) k1 (fun j x hx=>by
    have hj:j<bs.length:=by
     rcases zJ j bs.length with h'|h'
     . exact h'
     . rw [zz (by omega)] at hx;simp at hx
    obtain ⟨uu,g1,g2,g3⟩:=V j hj;rw [g2] at hx;obtain rfl:=(z6 _ _).mp hx;by_cases aa:j=0
    . subst aa;simpa [Addr.add] using g3
    . simpa [Addr.add,aa] using g3) (by rw [hl,k2,Q];have:=q.fits;simp only at this;omega) (by omega) (fun e=>hne (by rw [<-hl,e];rfl)) (by rw [hl];have h1:=q.fits;have h2:=q.capm;simp only at h1;unfold maxLen at h2;omega)).mono ?_
   rintro e w' ⟨rfl,rfl⟩;rw [hl];have Y:=q.low J;obtain ⟨g1,g2⟩:=xA9 hR J ag rfl rfl rfl q (u+1) (by have:=q.ver;simp only at this;omega) 1 5 rfl (w':=w.drew.freeze ⟨m1.b,0,none⟩ bs.length) (by rw [xyd];rfl) (fun b hb=>by rw [xv4 _ _ _ _ hb];rfl)
   exact ⟨_,A,_,rfl,Lib.below_freeze (hB.drew) (p:=⟨m1.b,0,none⟩) Y _,fun _ _=>Iff.rfl,Ev.refl.step g2,by simpa using g1,.str _⟩
 . rename_i ty a pm rest al;split at h
   case h_2=>simp at h
   rename_i O;have O:=zg O;subst O;simp only [z6,zb,true_and] at h;obtain ⟨rfl,rfl⟩:=h;refine ⟨xgn Tryz.func126 rfl (by kernel_rfl),fun w0 w A MM vs hI hB hR U=>?_⟩
   obtain ⟨v,rfl,hv⟩:=rc1 U;obtain ⟨m,c,hm,ab,hcap,rfl,hh,ad,hsz,r0,r1,e0,e1⟩:=xnG hR (by rfl) hv rfl
   have hn:c.getD 1 undef=.slice none 0 0:=by
    revert r1;generalize c.getD 1 undef=z;intro r1;cases r1;rfl
   rw [hn] at e1;refine (Tryz.builder_string_nil m.b w e1).mono ?_;rintro e w' ⟨rfl,rfl⟩;exact ⟨_,A,MM,rfl,hB.drew,fun _ _=>Iff.rfl,Ev.refl.step ⟨zd _,fun _ _ _=>rfl,fun _ _ h=>h,fun _ _ h _=>h,MExt.refl MM,⟨fun _ _ _=>rfl,fun i m1 h1 h0=>.inl ⟨i,m1,h1,h0,rfl⟩⟩⟩,hR.drew,.str _⟩
 . simp at h
end Go.Sim
end
noncomputable section
namespace Go.Sim
open Go.RowKit
variable {α β γ : Type}
structure Pat (α β:Type) where
 enc:β->α
 dec:α->Option β
 ok:∀ a b,dec a=some b->a=enc b
def xHQ:Pat α α:=⟨fun b=>b,some,fun a b h=>by simpa using h⟩
def pInt (k:IntKind):Pat AV Int:=⟨.int k,fun v=>match v with
 | .int k' n=>match decide (k'=k) with
  | true=>some n
  | false=>none
 | _=>none,fun v n h=>by
 split at h
 . split at h
   . rename_i hk;simp only [z6] at h;rw [of_decide_eq_true hk,h]
   . simp at h
 . simp at h⟩
def pStr:Pat AV (List UInt8):=⟨.str,fun v=>match v with
 | .str s=>some s
 | _=>none,fun v n h=>by
 split at h
 . simp only [z6] at h;rw [h]
 . simp at h⟩
def pBool:Pat AV Bool:=⟨.bool,fun v=>match v with
 | .bool s=>some s
 | _=>none,fun v n h=>by
 split at h
 . simp only [z6] at h;rw [h]
 . simp at h⟩
def xH3 (sz:Nat) (q:Pat (List AV) β):Pat AV β:=⟨fun b=>.list sz (q.enc b),fun v=>match v with
 | .list z xs=>match Nat.beq z sz with
  | true=>q.dec xs
  | false=>none
 | _=>none,fun v n h=>by
 split at h
 . split at h
   . rename_i hz;rw [zg hz,q.ok _ _ h]
   . simp at h
 . simp at h⟩
def xHY (id ver off:Nat):Pat AV Nat:=⟨.osl id ver off,fun v=>match v with
 | .osl (.b i) e o n=>match Nat.beq i id&&(Nat.beq e ver&&Nat.beq o off) with
  | true=>some n
  | false=>none
 | _=>none,fun v n h=>by
 split at h
 . split at h
   . rename_i hz;simp only [zf] at hz;simp only [z6] at h;rw [zg hz.1,zg hz.2.1,zg hz.2.2,h]
   . simp at h
 . simp at h⟩
def pOslV (id off:Nat):Pat AV (Nat×Nat):=⟨fun p=>.osl id p.1 off p.2,fun v=>match v with
 | .osl (.b i) e o n=>match Nat.beq i id&&Nat.beq o off with
  | true=>some (e,n)
  | false=>none
 | _=>none,fun v n h=>by
 split at h
 . split at h
   . rename_i hz;simp only [zf] at hz;simp only [z6] at h;rw [zg hz.1,zg hz.2,<-h]
   . simp at h
 . simp at h⟩
def pOwnV (id j:Nat):Pat AV (Nat×Nat):=⟨fun p=>.own id p.1 p.2 j,fun v=>match v with
 | .own (.b a) b c d=>match Nat.beq a id&&Nat.beq d j with
  | true=>some (b,c)
  | false=>none
 | _=>none,fun v n h=>by
 split at h
 . split at h
   . rename_i hz;simp only [zf] at hz;simp only [z6] at h;rw [zg hz.1,zg hz.2,<-h]
   . simp at h
 . simp at h⟩
def xHZ (id ver i j:Nat):Pat AV Unit:=⟨fun _=>.own id ver i j,fun v=>match v with
 | .own (.b a) b c d=>match Nat.beq a id&&(Nat.beq b ver&&(Nat.beq c i&&Nat.beq d j)) with
  | true=>some ()
  | false=>none
 | _=>none,fun v n h=>by
 split at h
 . split at h
   . rename_i hz;simp only [zf] at hz;rw [zg hz.1,zg hz.2.1,zg hz.2.2.1,zg hz.2.2.2]
   . simp at h
 . simp at h⟩
def pEptr (sz i j:Nat) (q:Pat (List AV) β):Pat AV β:=⟨fun b=>.eptr sz (q.enc b) i j,fun v=>match v with
 | .eptr a xs c d=>match Nat.beq a sz&&(Nat.beq c i&&Nat.beq d j) with
  | true=>q.dec xs
  | false=>none
 | _=>none,fun v n h=>by
 split at h
 . split at h
   . rename_i hz;simp only [zf] at hz;rw [zg hz.1,zg hz.2.1,zg hz.2.2,q.ok _ _ h]
   . simp at h
 . simp at h⟩
def xHx (q:Pat (List AV) β):Pat AV β:=⟨fun b=>.agg (q.enc b),fun v=>match v with
 | .agg cs=>q.dec cs
 | _=>none,fun v n h=>by
 split at h
 . rw [q.ok _ _ h]
 . simp at h⟩
def xHq (f:Nat) (q:Pat (List AV) β):Pat AV β:=⟨fun b=>.func f (q.enc b),fun v=>match v with
 | .func g cs=>match Nat.beq g f with
  | true=>q.dec cs
  | false=>none
 | _=>none,fun v n h=>by
 split at h
 . split at h
   . rename_i hz;rw [zg hz,q.ok _ _ h]
   . simp at h
 . simp at h⟩
def pNils:Pat AV Unit:=⟨fun _=>.nils,fun v=>match v with
 | .nils=>some ()
 | _=>none,fun v n h=>by
 split at h
 . rfl
 . simp at h⟩
def pNilptr:Pat AV Unit:=⟨fun _=>.nilptr,fun v=>match v with
 | .nilptr=>some ()
 | _=>none,fun v n h=>by
 split at h
 . rfl
 . simp at h⟩
def xHO:Pat (List α) Unit:=⟨fun _=>[],fun v=>match v with
 | []=>some ()
 | _=>none,fun v n h=>by
 split at h
 . rfl
 . simp at h⟩
def xHM (p:Pat α β) (q:Pat (List α) γ):Pat (List α) (β×γ):=⟨fun b=>p.enc b.1::q.enc b.2,fun v=>match v with
 | x::t=>match p.dec x with
  | some b=>match q.dec t with
   | some c=>some (b,c)
   | none=>none
  | none=>none
 | _=>none,fun v n h=>by
 split at h
 . split at h
   . rename_i hp;split at h
     . rename_i hq;cases h;rw [p.ok _ _ hp,q.ok _ _ hq]
     . simp at h
   . simp at h
 . simp at h⟩
def xH0 (ver sz ty:Nat) (frz pm:Bool) (q:Pat (List AV) β):Pat Box β:=⟨fun b=>⟨ver,sz,ty,q.enc b,frz,pm⟩,fun v=>match v with
 | ⟨a,b,c,xs,f,p⟩=>match Nat.beq a ver&&(Nat.beq b sz&&(Nat.beq c ty&&((f==frz)&&(p==pm)))) with
  | true=>q.dec xs
  | false=>none,fun v n h=>by
 obtain ⟨a,b,c,xs,f,p⟩:=v;dsimp only at h;split at h
 . rename_i hz;simp only [zf,beq_iff_eq] at hz;rw [zg hz.1,zg hz.2.1,zg hz.2.2.1,hz.2.2.2.1,hz.2.2.2.2,q.ok _ _ h]
 . simp at h⟩
def pBoxV (sz ty:Nat) (frz pm:Bool) (q:Pat (List AV) β):Pat Box (Nat×β):=⟨fun b=>⟨b.1,sz,ty,q.enc b.2,frz,pm⟩,fun v=>match v with
 | ⟨a,b,c,xs,f,p⟩=>match Nat.beq b sz&&(Nat.beq c ty&&((f==frz)&&(p==pm))) with
  | true=>match q.dec xs with
   | some y=>some (a,y)
   | none=>none
  | false=>none,fun v n h=>by
 obtain ⟨a,b,c,xs,f,p⟩:=v;dsimp only at h;split at h
 . rename_i hz;simp only [zf,beq_iff_eq] at hz;split at h
   . rename_i y hy;simp only [z6] at h;rw [zg hz.1,zg hz.2.1,hz.2.2.1,hz.2.2.2,<-h,q.ok _ _ hy]
   . simp at h
 . simp at h⟩
def Sub (a b:AV):Prop:=∀ (w:World) (A:Nat->Prop) (M:Id->Option MB) (v:Value),Rel w A M v a->Rel w A M v b
def SubL (aS bs:List AV):Prop:=aS.length=bs.length/\∀ i,i<aS.length->Sub (aS.getD i .top) (bs.getD i .top)
theorem Sub.refl (a:AV):Sub a a:=fun _ _ _ _ h=>h
theorem Sub.of_eq {a b:AV} (h:a=b):Sub a b:=h▸Sub.refl a
theorem xCY (sz:Nat):Sub .nils (.list sz []):=fun w A M v h=>by
 cases h;exact .list0 _ _ _
theorem xEg {aS bs:List AV} (h:SubL aS bs):Sub (.agg aS) (.agg bs):=fun w A M v hr=>by
 obtain ⟨vs,rfl,h1,h2⟩:=hr.agg_inv;exact .agg vs bs (h1.trans h.1) fun i hi=>h.2 i (h.1.symm▸hi) w A M _ (h2 i (h.1.symm▸hi))
theorem xBH {w:World} {A:Nat->Prop} {M:Id->Option MB} {vs:List Value} {aS bs:List AV} (h:SubL aS bs) (hr:RC w A M vs aS):RC w A M vs bs :=
 ⟨hr.1.trans h.1,fun i hi=>h.2 i (h.1.symm▸hi) w A M _ (hr.2 i (h.1.symm▸hi))⟩
structure SPat (β:Type) where
 enc:β->AV
 dec:AV->Option β
 ok:∀ a b,dec a=some b->Sub a (enc b)
structure SPatL (β:Type) where
 enc:β->List AV
 dec:List AV->Option β
 ok:∀ a b,dec a=some b->SubL a (enc b)
def sEq (p:Pat AV β):SPat β:=⟨p.enc,p.dec,fun a b h=>Sub.of_eq (p.ok a b h)⟩
def xH1 (sz:Nat) (q:Pat (List AV) β):SPat β:=⟨fun b=>.list sz (q.enc b),fun v=>match v with
 | .nils=>q.dec []
 | .list z xs=>match Nat.beq z sz with
  | true=>q.dec xs
  | false=>none
 | _=>none,fun v n h=>by
 split at h
 . rw [<-q.ok _ _ h];exact xCY sz
 . split at h
   . rename_i hz;rw [zg hz,q.ok _ _ h];exact Sub.refl _
   . simp at h
 . simp at h⟩
def xH2 (q:SPatL β):SPat β:=⟨fun b=>.agg (q.enc b),fun v=>match v with
 | .agg cs=>q.dec cs
 | _=>none,fun v n h=>by
 split at h
 . exact xEg (q.ok _ _ h)
 . simp at h⟩
def xHP:SPatL Unit:=⟨fun _=>[],fun v=>match v with
 | []=>some ()
 | _=>none,fun v n h=>by
 split at h
 . exact ⟨rfl,fun i hi=>by simp at hi⟩
 . simp at h⟩
def xHN (p:SPat β) (q:SPatL γ):SPatL (β×γ):=⟨fun b=>p.enc b.1::q.enc b.2,fun v=>match v with
 | x::t=>match p.dec x with
  | some b=>match q.dec t with
   | some c=>some (b,c)
   | none=>none
  | none=>none
 | _=>none,fun v n h=>by
 split at h
 . split at h
   . rename_i hp;split at h
     . rename_i hq;cases h;obtain ⟨h1,h2⟩:=q.ok _ _ hq;refine ⟨by simp [h1],fun i hi=>?_⟩
       cases i with
       | zero=>exact p.ok _ _ hp
       | succ i=>exact h2 i (by simpa using hi)
     . simp at h
   . simp at h
 . simp at h⟩
def ocOf (pv:SPatL β) (g:β->Bool×AV):List AV->Option (Bool×AV):=fun xs=>match pv.dec xs with
 | some b=>some (g b)
 | none=>none
def omOf (pv:SPatL β) (pb:Pat (List Box) γ) (g:β->γ->Bool×AV×List Box):List AV->List Box->Option (Bool×AV×List Box):=fun xs H=>match pv.dec xs with
 | some b=>match pb.dec H with
  | some c=>some (g b c)
  | none=>none
 | none=>none
def lpOf (live liveO:List Nat) (conv:List (Nat×Nat×TypeId)) (pv:Pat (List AV) β) (pb:Pat (List Box) γ) (g:β->γ->Bool×LR):Lp:=⟨live,liveO,conv,fun xs H=>match pv.dec xs with
 | some b=>match pb.dec H with
  | some c=>some (g b c)
  | none=>none
 | none=>none⟩
section
variable {P : Program} {Inv : IV}
theorem xlS {n:FuncId} {pv:SPatL β} {g:β->Bool×AV} (h:∀ b r,g b=(true,r)->Good P Inv n (pv.enc b) r):OcOk P Inv n (ocOf pv g):=fun xs r e=>by
 unfold ocOf at e;split at e
 . rename_i b hb;simp only [z6] at e;obtain ⟨h1,h2⟩:=h b r e;exact ⟨h1,fun w A vs hi ha hr=>h2 w A vs hi ha (xBH (pv.ok _ _ hb) hr)⟩
 . simp at e
theorem xlT {n:FuncId} {pv:SPatL β} {pb:Pat (List Box) γ} {g:β->γ->Bool×AV×List Box} (h:∀ b c r H',g b c=(true,r,H')->GoodM P Inv n (pv.enc b) (pb.enc c) r H'):OmOk P Inv n (omOf pv pb g):=fun xs H r H' e=>by
 unfold omOf at e;split at e
 . rename_i b hb;split at e
   . rename_i c hc;simp only [z6] at e;rw [pb.ok _ _ hc];obtain ⟨h1,h2⟩:=h b c r H' e;exact ⟨h1,fun w0 w A M vs hi q hR hr=>h2 w0 w A M vs hi q hR (xBH (pv.ok _ _ hb) hr)⟩
   . simp at e
 . simp at e
theorem xE0 {nt:Nat} {l:Code} {live liveO:List Nat} {conv:List (Nat×Nat×TypeId)} {pv:Pat (List AV) β} {pb:Pat (List Box) γ} {g:β->γ->Bool×LR}
  (h:∀ b c r,g b c=(true,r)->DoesL P Inv l (fun e1 s1=>e1=r.eval.1/\s1=⟨mkTs nt (liveO.zip r.eval.2.1),r.eval.2.2⟩) ⟨mkTs nt (live.zip (pv.enc b)),pb.enc c⟩):LoopOk P Inv nt l (lpOf live liveO conv pv pb g):=fun vals H r e=>by
 unfold lpOf at e;dsimp only at e;split at e
 . rename_i b hb;split at e
   . rename_i c hc;simp only [z6] at e;rw [pv.ok _ _ hb,pb.ok _ _ hc];exact h b c r e
   . simp at e
 . simp at e
end
theorem xcy {x:Option α} {d:α} (h:x.isSome=true):x=some (x.getD d):=by
 cases x with
 | none=>simp at h
 | some y=>rfl
end Go.Sim
end
noncomputable section
namespace Go.Sim.M
open Go.RowKit Go.Proofs
def E0:Env:=(((Env.none.with 117 xkN).with 124 xnE).withM 142 xpI).withM 126 xlg
theorem xC3:xG3 Tryz.prog xHL E0:=(((xz3.with xr7).with xuq).withM xw7).withM xsB
end Go.Sim.M
end
noncomputable section
namespace Go.Sim
open Go.RowKit
def EncS {α:Type} (f:α->AV) (a:Option α) (b:Option AV):Prop:=∀ r,a=some r->∃ x,b=some x/\Sub x (f r)
theorem EncS.none {α:Type} {f:α->AV} {b:Option AV}:EncS f .none b:=fun r h=>by simp at h
theorem EncS.some {α:Type} {f:α->AV} {a:α} {b:AV} (h:Sub b (f a)):EncS f (Option.some a) (Option.some b):=fun r e=>by cases e;exact ⟨b,rfl,h⟩
theorem EncS.br {α:Type} {f:α->AV} {t:Bool} {a a':Option α} {b b':Option AV} (h1:EncS f a b) (h2:EncS f a' b'):EncS f (Sim.br t a a') (Sim.br t b b'):=by cases t<;>assumption
theorem Good.sub {P:Program} {Inv:IV} {f:FuncId} {args:List AV} {r r':AV} (h:Good P Inv f args r) (hs:Sub r r'):Good P Inv f args r' :=
 ⟨h.1,fun w A vs hI hA q=>(h.2 w A vs hI hA q).mono fun e w' ⟨v,he,hb,hr⟩=>⟨v,he,hb,hs w' A xHg v hr⟩⟩
theorem GoodM.bump1 {P:Program} {Inv:IV} {f:FuncId} {args:List AV} {H:List Box} {v v' k sz:Nat} {ty:TypeId} {xs:List AV} {frz pm:Bool} (Q:isC ty=false) (hv:v<v')
  (h:GoodM P Inv f args H (.osl (.b 0) v 0 k) [⟨v,sz,ty,xs,frz,pm⟩]):GoodM P Inv f args H (.osl (.b 0) v' 0 k) [⟨v',sz,ty,xs,frz,pm⟩]:=by
 refine ⟨h.1,fun w0 w A M vs hI hB hR V=>(h.2 w0 w A M vs hI hB hR V).mono ?_⟩
 rintro e w' ⟨u,A',M',rfl,h1,h2,h3,h4,h5⟩;obtain ⟨m,g1,g2,g3,g4⟩:=Rel.osl_inv h5;obtain ⟨bx,q1,q2⟩:=h4.box _ m g1;have:bx=⟨v,sz,ty,xs,frz,pm⟩:=by
  have:=q1;rw [xbP] at this;simpa using this.symm
 subst this;have U:v=m.ver:=q2.ver;have O:MExt M' (MSet M' (.b 0) ⟨m.b,v',m.sz,m.cap,m.ty⟩):=xni g1 (.inr (by simp only;omega))
 have J:∀ id m1,MSet M' (.b 0) ⟨m.b,v',m.sz,m.cap,m.ty⟩ id=some m1->∃ m0,M' id=some m0/\m1.b=m0.b/\m1.cap=m0.cap:=fun id m1 q=>by
  by_cases hi:id=.b 0
  . subst hi;simp [MSet] at q;subst q;exact ⟨m,g1,rfl,rfl⟩
  . exact ⟨m1,by simpa [MSet,hi] using q,rfl,rfl⟩
 have hR':HR w' A' (MSet M' (.b 0) ⟨m.b,v',m.sz,m.cap,m.ty⟩) w0.heap.size [⟨v',sz,ty,xs,frz,pm⟩]:=by
  refine ⟨fun id m1 q=>?_,fun id id' m1 m2 k1 k2 c1 c2 he=>?_,h4.lt⟩
  . by_cases hi:id=.b 0
    . subst hi;have:m1=⟨m.b,v',m.sz,m.cap,m.ty⟩:=by simp [MSet] at q;exact q.symm
      subst this;have q3:=q2.mono (w':=w') (fun _=>rfl) (fun _ _ _=>rfl) (zd _) (fun _ _ h=>h) q2.guard O
      exact ⟨⟨v',sz,ty,xs,frz,pm⟩,rfl,rfl,q3.sz,q3.ty,q3.capm,q3.fits,q3.ok,q3.low,q3.lt,q3.cells,q3.guard⟩
    . have Y:M' id=some m1:=by simpa [MSet,hi] using q
      obtain ⟨bx,k1,k2⟩:=h4.box id m1 Y;have k3:getB [⟨v',sz,ty,xs,frz,pm⟩] id=some bx:=by
       rw [<-k1];exact xcw (H:=[⟨v,sz,ty,xs,frz,pm⟩]) (n:=0) (bx:=⟨v,sz,ty,xs,frz,pm⟩) (bx':=⟨v',sz,ty,xs,frz,pm⟩) rfl Q Q hi
      exact ⟨bx,k3,k2.mono (fun _=>rfl) (fun _ _ _=>rfl) (zd _) (fun _ _ h=>h) k2.guard O⟩
  . obtain ⟨n1,a1,a2,a3⟩:=J id m1 k1;obtain ⟨n2,b1,b2,b3⟩:=J id' m2 k2;exact h4.inj id id' n1 n2 a1 b1 (by omega) (by omega) (by rw [<-a2,<-b2,he])
 refine ⟨u,A',MSet M' (.b 0) ⟨m.b,v',m.sz,m.cap,m.ty⟩,rfl,h1,h2,h3.step ⟨zd _,fun _ _ _=>rfl,fun _ _ h=>h,fun _ _ h _=>h,O,⟨fun _ _ _=>rfl,fun id m1 q h0=>?_⟩⟩,hR',?_⟩
 . obtain ⟨n1,a1,a2,a3⟩:=J id m1 q;exact .inl ⟨id,n1,a1,by omega,a2⟩
 . exact .osl u (.b 0) v' 0 k ⟨m.b,v',m.sz,m.cap,m.ty⟩ (by simp [MSet]) (zd _) g3 fun _=>g4 U
theorem GoodM.weaken {P:Program} {Inv:IV} {f:FuncId} {args:List AV} {H H1 H2:List Box} {r r2:AV} (h:GoodM P Inv f args H r H1)
  (hw:∀ w A M B v,HR w A M B H1->Rel w A M v r->∃ M',HR w A M' B H2/\Mv w A M w A M'/\Rel w A M' v r2):GoodM P Inv f args H r2 H2:=by
 refine ⟨h.1,fun w0 w A M vs hI hB hR q=>(h.2 w0 w A M vs hI hB hR q).mono ?_⟩
 rintro e w' ⟨u,A',M',rfl,h1,h2,h3,h4,h5⟩;obtain ⟨M2,g1,g2,g3⟩:=hw w' A' M' _ u h4 h5;exact ⟨u,A',M2,rfl,h1,h2,h3.step g2,g1,g3⟩
theorem xA8 {w:World} {A:Nat->Prop} {M:Id->Option MB} {B:Nat} {H:List Box} (hR:HR w A M B H) {n:Nat} {m:MB} {bx:Box} (hm:M (.b n)=some m) (hb:H[n]?=some bx) (U:isC bx.ty=false) (v:Nat) (hv:m.ver<v) (sz:Nat) (ty:TypeId) (O:isC ty=false) :
  HR w A (MSet M (.b n) ⟨m.b,v,sz,0,ty⟩) B (H.set n ⟨v,sz,ty,[],false,true⟩)/\Mv w A M w A (MSet M (.b n) ⟨m.b,v,sz,0,ty⟩):=by
 have J:MExt M (MSet M (.b n) ⟨m.b,v,sz,0,ty⟩):=xni hm (.inr hv);have hc:∀ {p:Prop},0<(0:Nat)->p:=fun h=>absurd h (by omega)
 have q:∀ i m1,MSet M (.b n) ⟨m.b,v,sz,0,ty⟩ i=some m1->0<m1.cap->i≠.b n/\M i=some m1:=fun i m1 h1 h0=>by
  by_cases hi:i=.b n
  . subst hi;simp [MSet] at h1;subst h1;exact absurd h0 (by simp)
  . exact ⟨hi,by simpa [MSet,hi] using h1⟩
 refine ⟨⟨fun i m1 h1=>?_,fun i i' m1 m2 h1 h2 c1 c2 he=>hR.inj i i' m1 m2 (q i m1 h1 c1).2 (q i' m2 h2 c2).2 c1 c2 he,hR.lt⟩,⟨zd _,fun _ _ _=>rfl,fun _ _ h=>h,fun _ _ h _=>h,J,⟨fun _ _ _=>rfl,fun i m1 h1 h0=>.inl ⟨i,m1,(q i m1 h1 h0).2,h0,rfl⟩⟩⟩⟩
 by_cases hi:i=.b n
 . subst hi;have:m1=⟨m.b,v,sz,0,ty⟩:=by simp [MSet] at h1;exact h1.symm
   subst this;exact ⟨⟨v,sz,ty,[],false,true⟩,by rw [xbP,zL (xc0 hb)],rfl,rfl,xbh O,zQ _,zQ _,fun x hx=>by simp at hx,hc,hc,hc,hc⟩
 . have Q:M i=some m1:=by simpa [MSet,hi] using h1
   obtain ⟨V,g1,g2⟩:=hR.box i m1 Q;exact ⟨V,by rw [xcw hb U O hi];exact g1,g2.mono (fun _=>rfl) (fun _ _ _=>rfl) (zd _) (fun _ _ h=>h) g2.guard J⟩
theorem GoodM.drop0 {P:Program} {Inv:IV} {f:FuncId} {args:List AV} {H:List Box} {v v' w k sz Q:Nat} {ty q:TypeId} {xs ys:List AV} {frz pm U O:Bool} (J:isC ty=false) (hv:v<v')
  (h:GoodM P Inv f args H (.osl (.b 1) w 0 k) [⟨v,sz,ty,xs,frz,pm⟩,⟨w,Q,q,ys,U,O⟩]):GoodM P Inv f args H (.osl (.b 1) w 0 k) [⟨v',sz,ty,[],false,true⟩,⟨w,Q,q,ys,U,O⟩] :=
 h.weaken fun w1 A M B u hR hr=>by
  cases hm:M (.b 0) with
  | some m =>
   obtain ⟨bx,q1,q2⟩:=hR.box _ m hm;have hb:[(⟨v,sz,ty,xs,frz,pm⟩:Box),⟨w,Q,q,ys,U,O⟩][0]?=some ⟨v,sz,ty,xs,frz,pm⟩:=rfl;rw [xbP,hb] at q1;cases q1;obtain ⟨g1,g2⟩:=xA8 hR hm hb J v' (by have:v=m.ver:=q2.ver;omega) sz ty J
   exact ⟨_,g1,g2,g2.rel hr⟩
  | none =>
   refine ⟨M,⟨fun i m V=>?_,hR.inj,hR.lt⟩,Mv.refl,hr⟩
   obtain ⟨bx,q1,q2⟩:=hR.box i m V;refine ⟨bx,?_,q2⟩;by_cases hi:i=.b 0
   . subst hi;rw [hm] at V;cases V
   . rw [<-q1];exact xcw (H:=[⟨v,sz,ty,xs,frz,pm⟩,⟨w,Q,q,ys,U,O⟩]) (n:=0) (bx:=⟨v,sz,ty,xs,frz,pm⟩) (bx':=⟨v',sz,ty,[],false,true⟩) rfl J J hi
theorem GoodM.move0 {P:Program} {Inv:IV} {f:FuncId} {args:List AV} {H:List Box} {v v' w k sz:Nat} {ty:TypeId} {xs:List AV} {frz:Bool} (q:isC ty=false) (hv:v<v')
  (h:GoodM P Inv f args H (.osl (.b 0) v 0 k) [⟨v,sz,ty,xs,frz,true⟩]):GoodM P Inv f args H (.osl (.b 1) w 0 k) [⟨v',sz,ty,[],false,true⟩,⟨w,sz,ty,xs,frz,true⟩] :=
 h.weaken fun w1 A M B u hR hr=>by
  obtain ⟨m,g1,g2,g3,g4⟩:=Rel.osl_inv hr;obtain ⟨bx,q1,q2⟩:=hR.box _ m g1;have:bx=⟨v,sz,ty,xs,frz,true⟩:=by
   have:=q1;rw [xbP] at this;simpa using this.symm
  subst this;have U:v=m.ver:=q2.ver;have V:M (.b 1)=none:=by
   cases h1:M (.b 1) with
   | none=>rfl
   | some m1=>obtain ⟨b1,k1,_⟩:=hR.box _ m1 h1;rw [xbP] at k1;simp at k1
  have Q:∀ n i j m1,M (.r n i j)=some m1->n=0:=fun n i j m1 h1=>by
   obtain ⟨b1,k1,_⟩:=hR.box _ m1 h1;obtain ⟨b0,k2,_⟩:=xmf k1;have:=xc0 k2;simp at this;omega
  let M2:Id->Option MB:=MSet (MSet M (.b 0) ⟨m.b,v',sz,0,ty⟩) (.b 1) ⟨m.b,w,m.sz,m.cap,m.ty⟩;have e1:M2 (.b 1)=some ⟨m.b,w,m.sz,m.cap,m.ty⟩:=by simp [M2,MSet]
  have e0:M2 (.b 0)=some ⟨m.b,v',sz,0,ty⟩:=by simp [M2,MSet]
  have eo:∀ i,i≠.b 0->i≠.b 1->M2 i=M i:=fun i h0 h1=>by simp [M2,MSet,h0,h1]
  have J:MExt M M2:=fun i m1 h1=>by
   by_cases h0:i=.b 0
   . subst h0;rw [g1] at h1;cases h1;exact ⟨_,e0,.inr (by simp only;omega)⟩
   . by_cases h2:i=.b 1
     . subst h2;rw [V] at h1;cases h1
     . exact ⟨m1,by rw [eo i h0 h2];exact h1,.inl rfl⟩
  have O:∀ i m1,M2 i=some m1->0<m1.cap->i≠.b 0/\∃ i0 m0,M i0=some m0/\m0.b=m1.b/\m0.cap=m1.cap/\(i=.b 1->i0=.b 0)/\(i≠.b 1->i0=i):=fun i m1 h1 h0=>by
   by_cases hi:i=.b 0
   . subst hi;rw [e0] at h1;cases h1;exact absurd h0 (by simp)
   . refine ⟨hi,?_⟩;by_cases h2:i=.b 1
     . subst h2;rw [e1] at h1;cases h1;exact ⟨.b 0,m,g1,rfl,rfl,fun _=>rfl,fun h=>absurd rfl h⟩
     . rw [eo i hi h2] at h1;exact ⟨i,m1,h1,rfl,rfl,fun h=>absurd h h2,fun _=>rfl⟩
  refine ⟨M2,⟨fun i m1 h1=>?_,fun i i' m1 m2 h1 h2 c1 c2 he=>?_,hR.lt⟩,⟨zd _,fun _ _ _=>rfl,fun _ _ h=>h,fun _ _ h _=>h,J,⟨fun _ _ _=>rfl,fun i m1 h1 h0=>?_⟩⟩,?_⟩
  . by_cases hi:i=.b 0
    . subst hi;rw [e0] at h1;cases h1;have hc:∀ {p:Prop},0<(0:Nat)->p:=fun h=>absurd h (by omega)
      exact ⟨⟨v',sz,ty,[],false,true⟩,rfl,rfl,rfl,xbh q,zQ _,zQ _,fun x hx=>by simp at hx,hc,hc,hc,hc⟩
    . by_cases h2:i=.b 1
      . subst h2;rw [e1] at h1;cases h1;have q3:=q2.mono (w':=w1) (A':=A) (fun _=>rfl) (fun _ _ _=>rfl) (zd _) (fun _ _ h=>h) q2.guard J
        refine ⟨⟨w,sz,ty,xs,frz,true⟩,rfl,rfl,q3.sz,q3.ty,q3.capm,q3.fits,q3.ok,q3.low,q3.lt,fun h0=>?_,q3.guard⟩
        obtain ⟨c,c1,c2,c3⟩:=q3.cells h0;refine ⟨c,c1,c2,fun i j hi hj=>?_⟩
        have:=c3 i j hi hj;rw [xaS q,xbt q] at this;rw [xaS q,xbt (bx:=⟨w,sz,ty,xs,frz,true⟩) q];exact this
      . rw [eo i hi h2] at h1;obtain ⟨b1,k1,k2⟩:=hR.box i m1 h1;cases i with
        | b n =>
         rw [xbP] at k1;have:=xc0 k1;have:n=0:=by simp at this;omega
         subst this;exact absurd rfl hi
        | r n a b =>
         have hn:=Q n a b m1 h1;subst hn;rw [xeg (H:=[⟨v,sz,ty,xs,frz,true⟩]) (by rfl) q] at k1
         cases k1;exact ⟨tombB,xeg (by rfl) q,k2.mono (fun _=>rfl) (fun _ _ _=>rfl) (zd _) (fun _ _ h=>h) k2.guard J⟩
  . obtain ⟨a1,i0,n0,a2,a3,a4,a5,a6⟩:=O i m1 h1 c1;obtain ⟨b1,j0,n1,b2,b3,b4,b5,b6⟩:=O i' m2 h2 c2;have:=hR.inj i0 j0 n0 n1 a2 b2 (by omega) (by omega) (by rw [a3,b3,he])
    by_cases hi:i=.b 1
    . by_cases hj:i'=.b 1
      . rw [hi,hj]
      . rw [a5 hi,b6 hj] at this;exact absurd this.symm b1
    . by_cases hj:i'=.b 1
      . rw [a6 hi,b5 hj] at this;exact absurd this a1
      . rw [a6 hi,b6 hj] at this;exact this
  . obtain ⟨a1,i0,n0,a2,a3,a4,_,_⟩:=O i m1 h1 h0;exact .inl ⟨i0,n0,a2,by omega,a3.symm⟩
  . exact .osl u (.b 1) w 0 k ⟨m.b,w,m.sz,m.cap,m.ty⟩ e1 (zd _) g3 fun _=>g4 U
end Go.Sim
end
noncomputable section
namespace Go.Sim
open Go.RowKit Go.Proofs
noncomputable abbrev P0:Program:=Tryz.prog
section
variable {α β γ ρ σ : Type}
def qI:Pat AV Int:=pInt .i64
def qL (k:Nat):Pat AV (List AV):=xH3 k xHQ
def qB {β:Type} (v s t:Nat) (q:Pat (List AV) β):Pat Box β:=xH0 v s t false true q
def bF (v s t:Nat) (x:List AV):Box:=⟨v,s,t,x,false,true⟩
def uI:SPat Int:=sEq qI
def uL (k:Nat):SPat (List AV):=xH1 k xHQ
def q1 {α α0:Type} (a:Pat α α0):Pat (List α) (α0×Unit):=xHM a (xHO)
def q2 {α α0 α1:Type} (a:Pat α α0) (b:Pat α α1):Pat (List α) (α0×α1×Unit):=xHM a (xHM b (xHO))
def q3 {α α0 α1 α2:Type} (a:Pat α α0) (b:Pat α α1) (c:Pat α α2):Pat (List α) (α0×α1×α2×Unit):=xHM a (xHM b (xHM c (xHO)))
def q4 {α α0 α1 α2 α3:Type} (a:Pat α α0) (b:Pat α α1) (c:Pat α α2) (d:Pat α α3):Pat (List α) (α0×α1×α2×α3×Unit):=xHM a (xHM b (xHM c (xHM d (xHO))))
def q5 {α α0 α1 α2 α3 α4:Type} (a:Pat α α0) (b:Pat α α1) (c:Pat α α2) (d:Pat α α3) (e:Pat α α4):Pat (List α) (α0×α1×α2×α3×α4×Unit):=xHM a (xHM b (xHM c (xHM d (xHM e (xHO)))))
def q6 {α α0 α1 α2 α3 α4 α5:Type} (a:Pat α α0) (b:Pat α α1) (c:Pat α α2) (d:Pat α α3) (e:Pat α α4) (f:Pat α α5):Pat (List α) (α0×α1×α2×α3×α4×α5×Unit):=xHM a (xHM b (xHM c (xHM d (xHM e (xHM f (xHO))))))
def q7 {α α0 α1 α2 α3 α4 α5 α6:Type} (a:Pat α α0) (b:Pat α α1) (c:Pat α α2) (d:Pat α α3) (e:Pat α α4) (f:Pat α α5) (g:Pat α α6):Pat (List α) (α0×α1×α2×α3×α4×α5×α6×Unit):=xHM a (xHM b (xHM c (xHM d (xHM e (xHM f (xHM g (xHO)))))))
def q8 {α α0 α1 α2 α3 α4 α5 α6 α7:Type} (a:Pat α α0) (b:Pat α α1) (c:Pat α α2) (d:Pat α α3) (e:Pat α α4) (f:Pat α α5) (g:Pat α α6) (h:Pat α α7):Pat (List α) (α0×α1×α2×α3×α4×α5×α6×α7×Unit):=xHM a (xHM b (xHM c (xHM d (xHM e (xHM f (xHM g (xHM h (xHO))))))))
def q9 {α α0 α1 α2 α3 α4 α5 α6 α7 α8:Type} (a:Pat α α0) (b:Pat α α1) (c:Pat α α2) (d:Pat α α3) (e:Pat α α4) (f:Pat α α5) (g:Pat α α6) (h:Pat α α7) (i:Pat α α8):Pat (List α) (α0×α1×α2×α3×α4×α5×α6×α7×α8×Unit):=xHM a (xHM b (xHM c (xHM d (xHM e (xHM f (xHM g (xHM h (xHM i (xHO)))))))))
def q10 {α α0 α1 α2 α3 α4 α5 α6 α7 α8 α9:Type} (a:Pat α α0) (b:Pat α α1) (c:Pat α α2) (d:Pat α α3) (e:Pat α α4) (f:Pat α α5) (g:Pat α α6) (h:Pat α α7) (i:Pat α α8) (j:Pat α α9):Pat (List α) (α0×α1×α2×α3×α4×α5×α6×α7×α8×α9×Unit):=xHM a (xHM b (xHM c (xHM d (xHM e (xHM f (xHM g (xHM h (xHM i (xHM j (xHO))))))))))
def u1 {α0:Type} (a:SPat α0):SPatL (α0×Unit):=xHN a (xHP)
def u2 {α0 α1:Type} (a:SPat α0) (b:SPat α1):SPatL (α0×α1×Unit):=xHN a (xHN b (xHP))
def u3 {α0 α1 α2:Type} (a:SPat α0) (b:SPat α1) (c:SPat α2):SPatL (α0×α1×α2×Unit):=xHN a (xHN b (xHN c (xHP)))
def u4 {α0 α1 α2 α3:Type} (a:SPat α0) (b:SPat α1) (c:SPat α2) (d:SPat α3):SPatL (α0×α1×α2×α3×Unit):=xHN a (xHN b (xHN c (xHN d (xHP))))
def u5 {α0 α1 α2 α3 α4:Type} (a:SPat α0) (b:SPat α1) (c:SPat α2) (d:SPat α3) (e:SPat α4):SPatL (α0×α1×α2×α3×α4×Unit):=xHN a (xHN b (xHN c (xHN d (xHN e (xHP)))))
def u6 {α0 α1 α2 α3 α4 α5:Type} (a:SPat α0) (b:SPat α1) (c:SPat α2) (d:SPat α3) (e:SPat α4) (f:SPat α5):SPatL (α0×α1×α2×α3×α4×α5×Unit):=xHN a (xHN b (xHN c (xHN d (xHN e (xHN f (xHP))))))
def u7 {α0 α1 α2 α3 α4 α5 α6:Type} (a:SPat α0) (b:SPat α1) (c:SPat α2) (d:SPat α3) (e:SPat α4) (f:SPat α5) (g:SPat α6):SPatL (α0×α1×α2×α3×α4×α5×α6×Unit):=xHN a (xHN b (xHN c (xHN d (xHN e (xHN f (xHN g (xHP)))))))
def LR.okB:LR->Bool
 | .leaf e _ _=>match e with|.normal=>false|_=>true
 | .node _ a b=>a.okB&&b.okB
theorem LR.okB_ne:∀ {r:LR},r.okB=true->r.eval.1≠.normal
 | .leaf e _ _,h=>fun c=>by
  have c:e=.normal:=c;subst c;simp [LR.okB] at h
 | .node true a b,h=>LR.okB_ne (r:=a) (by simp only [LR.okB,zf] at h;exact h.1)
 | .node false a b,h=>LR.okB_ne (r:=b) (by simp only [LR.okB,zf] at h;exact h.2)
abbrev StT (σ ρ:Type):=σ->Option (σ⊕ρ)
def inL {σ ρ:Type} (s:σ):Option (σ⊕ρ):=some (.inl s)
def inR {σ ρ:Type} (p:ρ):Option (σ⊕ρ):=some (.inr p)
def ixI (l:List AV) (i:Int):Bool:=decide ((0:Int)<=i)&&decide (i<(↑l.length:Int))
def ixS (l:List AV) (i:Int) (s:Sh) (k:Nat):Bool:=decide (i.toNat<l.length)&&xG1 s ((l.getD i.toNat .top).cells.getD k .top)
def ixT (l:List AV) (i:Int) (n:Nat) (ss:List Sh) (k:Nat):Bool:=decide (i.toNat<l.length)&&((l.getD i.toNat .top).cells.length==n&&xG8 ss (l.getD i.toNat .top).cells k)
def gC (l:List AV) (i:Int) (k:Nat):AV:=(l.getD i.toNat .top).cells.getD k .top
def rmB (n:Nat) (l:List AV) (c z:Nat):Bool:=n==l.length&&(decide ((n+c)*z<=140737488355328)&&decide (n+c<=4611686018427387904))
abbrev RT:=Exit×List AV×List Box
abbrev HL (E:Env) (nt pin:Nat) (ls:List TypeId) (lp:List (Nat×Lp)) (fn:Func):Prop:=LoOk Tryz.prog (xHL.at pin) (E.fn nt pin (lsOf ls) (xHp lp)) (fn.body.getD .skip)
abbrev FX (E:Env) (nt pin:Nat) (ls:List TypeId) (lp:List (Nat×Lp)) (fn:Func) (pv:SPatL β) (t:β->(T:Type)->T->(ρ->T)->T) (e:β->ρ->AV):Prop:=∀ b,XF Tryz.prog (E.fn nt pin (lsOf ls) (xHp lp)) fn (fn.body.getD .skip) (pv.enc b)=t b (Option AV) none fun p=>some (e b p)
abbrev FE (t:β->(T:Type)->T->(ρ->T)->T) (e:β->ρ->AV):Prop:=∀ b,Enc (e b) (t b (Option ρ) none some) (t b (Option AV) none fun p=>some (e b p))
abbrev MX (E:Env) (nt pin:Nat) (ls:List TypeId) (lp:List (Nat×Lp)) (fn:Func) (pv:SPatL β) (pb:Pat (List Box) γ) (t:β->γ->(T:Type)->T->(ρ->T)->T) (e:β->γ->ρ->AV×List Box):Prop:=∀ b c,XFM Tryz.prog (E.fn nt pin (lsOf ls) (xHp lp)) fn (fn.body.getD .skip) (pv.enc b) (pb.enc c)=t b c (Option (AV×List Box)) none fun p=>some (e b c p)
abbrev ME (t:β->γ->(T:Type)->T->(ρ->T)->T) (e:β->γ->ρ->AV×List Box):Prop:=∀ b c,Enc (e b c) (t b c (Option ρ) none some) (t b c (Option (AV×List Box)) none fun p=>some (e b c p))
abbrev TX (E:Env) (nt pin:Nat) (ls:List TypeId) (lp:List (Nat×Lp)) (fn:Func) (pv:SPatL β) (t:β->(ρ->Option AV)->Option AV) (e:β->ρ->AV):Prop:=∀ b,XF Tryz.prog (E.fn nt pin (lsOf ls) (xHp lp)) fn (fn.body.getD .skip) (pv.enc b)=t b fun p=>some (e b p)
noncomputable abbrev LX (E:Env) (nt pin:Nat) (ls:List TypeId) (lp:List (Nat×Lp)) (l:Code) (lv lo:List Nat) (cv:List (Nat×Nat×TypeId)) (pv:Pat (List AV) β) (pb:Pat (List Box) γ) (F:β->γ->(σ->Option (σ⊕ρ))×σ×(ρ->LR)) (G:β->γ->σ->(β×γ)×((σ->Option RT)->(ρ->Option RT)->Option RT)):Prop:=∀ b c s,XR Tryz.prog (E.fn nt pin (lsOf ls) (xHp lp)) lv lo cv l (pv.enc (G b c s).1.1) (pb.enc (G b c s).1.2)=(G b c s).2 (fun s=>some (encR (fun s=>(pv.enc (G b c s).1.1,pb.enc (G b c s).1.2)) (F b c).2.2 (.inl s))) fun p=>some (encR (fun s=>(pv.enc (G b c s).1.1,pb.enc (G b c s).1.2)) (F b c).2.2 (.inr p))
abbrev LE (pv:Pat (List AV) β) (pb:Pat (List Box) γ) (F:β->γ->(σ->Option (σ⊕ρ))×σ×(ρ->LR)) (G:β->γ->σ->(β×γ)×((σ->Option RT)->(ρ->Option RT)->Option RT)):Prop:=∀ b c s,Enc (encR (fun s=>(pv.enc (G b c s).1.1,pb.enc (G b c s).1.2)) (F b c).2.2) ((F b c).1 s) ((G b c s).2 (fun s=>some (encR (fun s=>(pv.enc (G b c s).1.1,pb.enc (G b c s).1.2)) (F b c).2.2 (.inl s))) fun p=>some (encR (fun s=>(pv.enc (G b c s).1.1,pb.enc (G b c s).1.2)) (F b c).2.2 (.inr p)))
theorem eV {f:α->β} {a:Option α} {b:Option β} (Y:Option β) (h:b=Y) (he:Enc f a Y):Enc f a b:=h▸he
abbrev LA:=List AV
theorem lkN {P:Program} {Inv:IV} {E:Env}:∀ c,c∈([]:List Code)->∀ lp,E.lp (xHh c)=some lp->LoopOk P Inv E.nt c lp:=fun c h=>by simp at h
theorem lkC {P:Program} {Inv:IV} {E:Env} {l:Code} {ls:List Code} {lp0:Lp} (hok:LoopOk P Inv E.nt l lp0) (ht:∀ c,c∈ls->∀ lp,E.lp (xHh c)=some lp->LoopOk P Inv E.nt c lp) (h:E.lp (xHh l)=some lp0:=by kernel_rfl):∀ c,c∈l::ls->∀ lp,E.lp (xHh c)=some lp->LoopOk P Inv E.nt c lp:=fun c hc lp hs=>by
 rcases zC.1 hc with rfl|hc
 . rw [h,z6] at hs;subst hs;exact hok
 . exact ht c hc lp hs
theorem eN {f:α->β} {b:Option β}:Enc f none b:=Enc.none
theorem eS {f:α->β} {a:α} {b:β} (h:b=f a):Enc f (some a) (some b):=Enc.some h
theorem eB {f:α->β} {t:Bool} {a a':Option α} {b b':Option β} (h1:Enc f a b) (h2:Enc f a' b'):Enc f (br t a a') (br t b b'):=Enc.br h1 h2
def fnO (pv:SPatL β) (t:β->(T:Type)->T->(ρ->T)->T) (e:β->ρ->AV) (d:ρ):List AV->Option (Bool×AV):=ocOf pv fun b=>((t b (Option ρ) none some).isSome,e b ((t b (Option ρ) none some).getD d))
def fmO (pv:SPatL β) (pb:Pat (List Box) γ) (t:β->γ->(T:Type)->T->(ρ->T)->T) (e:β->γ->ρ->AV×List Box) (d:ρ):List AV->List Box->Option (Bool×AV×List Box):=omOf pv pb fun b c=>((t b c (Option ρ) none some).isSome,e b c ((t b c (Option ρ) none some).getD d))
noncomputable def lpO (lv lo:List Nat) (cv:List (Nat×Nat×TypeId)) (pv:Pat (List AV) β) (pb:Pat (List Box) γ) (F:β->γ->(σ->Option (σ⊕ρ))×σ×(ρ->LR)) (d:ρ):Lp :=
 lpOf lv lo cv pv pb fun b c=>((Iter (F b c).1 (F b c).2.1).isSome,(F b c).2.2 ((Iter (F b c).1 (F b c).2.1).getD d))
section
variable {E : Env}
def Tot {α:Type} (e:ρ->α) (a:ρ) (x:Option α):Prop:=x=some (e a)
theorem eT {α:Type} {e:ρ->α} {t:Bool} {a b:ρ} {x y:Option α} (h1:Tot e a x) (h2:Tot e b y):Tot e (br t a b) (br t x y):=by cases t<;>assumption
theorem eU {α:Type} {e:ρ->α} {a:ρ} {x:α} (h:x=e a):Tot e a (some x):=congrArg some h
def ftO (pv:SPatL β) (f:β->ρ) (e:β->ρ->AV):List AV->Option (Bool×AV):=ocOf pv fun b=>(true,e b (f b))
theorem ftC (h:xG3 Tryz.prog xHL E) {g:FuncId} {fn:Func} (hf:Tryz.prog.funcs[g]?=some fn) (nt pin:Nat) (ls:List TypeId) (lp:List (Nat×Lp)) {pv:SPatL β} {f:β->ρ} {e:β->ρ->AV}
  (hl:HL E nt pin ls lp fn) (t:β->(ρ->Option AV)->Option AV) (hx:TX E nt pin ls lp fn pv t e:=by intro b;kernel_rfl)
  (he:∀ b,Tot (e b) (f b) (t b fun p=>some (e b p)):=by intro b;repeat' first|apply eT|exact eU rfl)
  (hb:fn.body.isSome=true:=by exact rfl) (hn:(fn.name == "runtime.NumGoroutine")=false:=by kernel_rfl):OcOk Tryz.prog xHL g (ftO pv f e):=xlS fun b r hh=>by
 obtain ⟨_,h2⟩:=Prod.mk.inj hh;subst h2;exact xiR (p:=pin) (xlR xHc (xHd Tryz.prog _) rfl h.fn hf hb hn hl ((hx b).trans (he b)))
theorem lk0 {Inv:IV} {c:Code} (h:xHm c=[]:=by kernel_rfl) (hc:((xHi c).all fun d=>(E.lp (condId d)).isNone)=true:=by kernel_rfl):LoOk Tryz.prog Inv E c:=xe4 h hc
theorem lk1 {Inv:IV} {c l:Code} {lp0:Lp} (hok:LoopOk Tryz.prog Inv E.nt l lp0) (h:xHm c=[l]:=by kernel_rfl) (he:E.lp (xHh l)=some lp0:=by kernel_rfl) (hc:((xHi c).all fun d=>(E.lp (condId d)).isNone)=true:=by kernel_rfl):LoOk Tryz.prog Inv E c:=xlA h (lkC hok lkN he) hc
structure EO where
 E:Env
 ok:xG3 Tryz.prog xHL E
def EO.w (e:EO) {g:FuncId} {o:List AV->Option (Bool×AV)} (c:OcOk Tryz.prog xHL g o):EO:=⟨e.E.with g o,e.ok.with c⟩
def EO.wM (e:EO) {g:FuncId} {o:List AV->List Box->Option (Bool×AV×List Box)} (c:OmOk Tryz.prog xHL g o):EO:=⟨e.E.withM g o,e.ok.withM c⟩
theorem fnC (h:xG3 Tryz.prog xHL E) {g:FuncId} {fn:Func} (hf:Tryz.prog.funcs[g]?=some fn) (nt pin:Nat) (ls:List TypeId) (lp:List (Nat×Lp)) {pv:SPatL β} {t:β->(T:Type)->T->(ρ->T)->T} {e:β->ρ->AV} {d:ρ}
  (hl:HL E nt pin ls lp fn) (hx:FX E nt pin ls lp fn pv t e:=by intro b;kernel_rfl)
  (he:FE t e:=by intro b;repeat' first|apply eB|exact eN|exact eS rfl)
  (hb:fn.body.isSome=true:=by exact rfl) (hn:(fn.name == "runtime.NumGoroutine")=false:=by kernel_rfl):OcOk Tryz.prog xHL g (fnO pv t e d):=xlS fun b r hh=>by
 obtain ⟨h1,h2⟩:=Prod.mk.inj hh;subst h2;exact xiR (p:=pin) (xlR xHc (xHd Tryz.prog _) rfl h.fn hf hb hn hl ((hx b).trans (he b _ (xcy h1))))
theorem fmC (h:xG3 Tryz.prog xHL E) {g:FuncId} {fn:Func} (hf:Tryz.prog.funcs[g]?=some fn) (nt pin:Nat) (ls:List TypeId) (lp:List (Nat×Lp)) {pv:SPatL β} {pb:Pat (List Box) γ} {t:β->γ->(T:Type)->T->(ρ->T)->T} {e:β->γ->ρ->AV×List Box} {d:ρ}
  (hl:HL E nt pin ls lp fn) (hx:MX E nt pin ls lp fn pv pb t e:=by intro b c;kernel_rfl)
  (he:ME t e:=by intro b c;repeat' first|apply eB|exact eN|exact eS rfl)
  (hp:∀ c,(pb.enc c).length=pin:=by exact fun _=>rfl) (hb:fn.body.isSome=true:=by exact rfl) (hn:(fn.name == "runtime.NumGoroutine")=false:=by kernel_rfl):OmOk Tryz.prog xHL g (fmO pv pb t e d):=xlT fun b c r H' hh=>by
 obtain ⟨h1,h2⟩:=Prod.mk.inj hh;exact xg1 (p:=pin) (xiH xHc (xHd Tryz.prog _) rfl h.fn (hp c) hf hb hn hl (((hx b c).trans (he b c _ (xcy h1))).trans (congrArg some h2)))
theorem lpC (h:xG3 Tryz.prog xHL E) (nt pin:Nat) (ls:List TypeId) (lp:List (Nat×Lp)) {l:Code} {lv lo:List Nat} {cv:List (Nat×Nat×TypeId)} {pv:Pat (List AV) β} {pb:Pat (List Box) γ} {F:β->γ->(σ->Option (σ⊕ρ))×σ×(ρ->LR)} {d:ρ}
  (hl:LoOk Tryz.prog (xHL.at pin) (E.fn nt pin (lsOf ls) (xHp lp)) l) (G:β->γ->σ->(β×γ)×((σ->Option RT)->(ρ->Option RT)->Option RT))
  (hx:LX E nt pin ls lp l lv lo cv pv pb F G:=by intro b c s;kernel_rfl)
  (he:LE pv pb F G:=by intro b c s;repeat' first|apply eB|exact eN|exact eS rfl)
  (hM:∀ b c,(G b c (F b c).2.1).1=(b,c):=by exact fun _ _=>rfl) (ho:∀ b c r,((F b c).2.2 r).okB=true:=by exact fun _ _ _=>rfl):LoopOk Tryz.prog (xHL.at pin) nt l (lpO lv lo cv pv pb F d):=xE0 fun b c r hh=>by
 obtain ⟨h1,h2⟩:=Prod.mk.inj hh;subst h2;have:=xtv xHc (xHd Tryz.prog _) rfl (h.fn (nt:=nt) (pin:=pin) (ls:=lsOf ls) (lp:=xHp lp)) hl (fun s=>(pv.enc (G b c s).1.1,pb.enc (G b c s).1.2)) (F b c).2.2 (fun p=>LR.okB_ne (ho b c p)) (fun s r hr=>(hx b c s).trans (he b c s r hr)) (xcy (d:=d) h1)
 dsimp only at this;rw [hM b c] at this;exact this
structure LO (pin nt:Nat) (l:Code) where
 lp:Lp
 ok:LoopOk Tryz.prog (xHL.at pin) nt l lp
noncomputable def EO.f (x:EO) {g:FuncId} {fn:Func} (hf:Tryz.prog.funcs[g]?=some fn) (nt pin:Nat) (ls:List TypeId) (lp:List (Nat×Lp))
 (hl:HL x.E nt pin ls lp fn) (pv:SPatL β) (t:β->(T:Type)->T->(ρ->T)->T) (e:β->ρ->AV) (d:ρ) (hx:FX x.E nt pin ls lp fn pv t e:=by intro b;kernel_rfl)
 (he:FE t e:=by intro b;repeat' first|apply eB|exact eN|exact eS rfl)
 (hb:fn.body.isSome=true:=by exact rfl) (hn:(fn.name == "runtime.NumGoroutine")=false:=by kernel_rfl):EO:=x.w (fnC (d:=d) x.ok hf nt pin ls lp hl hx he hb hn)
noncomputable def EO.fM (x:EO) {g:FuncId} {fn:Func} (hf:Tryz.prog.funcs[g]?=some fn) (nt pin:Nat) (ls:List TypeId) (lp:List (Nat×Lp))
 (hl:HL x.E nt pin ls lp fn) (pv:SPatL β) (pb:Pat (List Box) γ) (t:β->γ->(T:Type)->T->(ρ->T)->T) (e:β->γ->ρ->AV×List Box) (d:ρ) (hx:MX x.E nt pin ls lp fn pv pb t e:=by intro b c;kernel_rfl)
 (he:ME t e:=by intro b c;repeat' first|apply eB|exact eN|exact eS rfl)
 (hp:∀ c,(pb.enc c).length=pin:=by exact fun _=>rfl) (hb:fn.body.isSome=true:=by exact rfl) (hn:(fn.name == "runtime.NumGoroutine")=false:=by kernel_rfl):EO:=x.wM (fmC (d:=d) x.ok hf nt pin ls lp hl hx he hp hb hn)
noncomputable def EO.fT (x:EO) {g:FuncId} {fn:Func} (hf:Tryz.prog.funcs[g]?=some fn) (nt pin:Nat) (ls:List TypeId) (lp:List (Nat×Lp))
 (hl:HL x.E nt pin ls lp fn) (t:β->(ρ->Option AV)->Option AV) (pv:SPatL β) (f:β->ρ) (e:β->ρ->AV) (hx:TX x.E nt pin ls lp fn pv t e:=by intro b;kernel_rfl)
 (he:∀ b,Tot (e b) (f b) (t b fun p=>some (e b p)):=by intro b;repeat' first|apply eT|exact eU rfl)
 (hb:fn.body.isSome=true:=by exact rfl) (hn:(fn.name == "runtime.NumGoroutine")=false:=by kernel_rfl):EO:=x.w (ftC x.ok hf nt pin ls lp hl t hx he hb hn)
noncomputable def EO.l (x:EO) (nt pin:Nat) (ls:List TypeId) (lp:List (Nat×Lp)) (fn:Func) (k:Nat) (hl:LoOk Tryz.prog (xHL.at pin) (x.E.fn nt pin (lsOf ls) (xHp lp)) (xG7 fn k)) (lv lo:List Nat) (cv:List (Nat×Nat×TypeId)) (pv:Pat (List AV) β) (pb:Pat (List Box) γ) (F:β->γ->(σ->Option (σ⊕ρ))×σ×(ρ->LR)) (d:ρ)
 (G:β->γ->σ->(β×γ)×((σ->Option RT)->(ρ->Option RT)->Option RT))
 (hx:LX x.E nt pin ls lp (xG7 fn k) lv lo cv pv pb F G:=by intro b c s;kernel_rfl)
 (he:LE pv pb F G:=by intro b c s;repeat' first|apply eB|exact eN|exact eS rfl)
 (hM:∀ b c,(G b c (F b c).2.1).1=(b,c):=by exact fun _ _=>rfl) (ho:∀ b c r,((F b c).2.2 r).okB=true:=by exact fun _ _ _=>rfl):LO pin nt (xG7 fn k):=⟨lpO lv lo cv pv pb F d,lpC x.ok nt pin ls lp hl G hx he hM ho⟩
theorem lks {Inv:IV} {c:Code} {ls:List Code} (hl:∀ l,l∈ls->∀ lp,E.lp (xHh l)=some lp->LoopOk Tryz.prog Inv E.nt l lp) (h:xHm c=ls:=by kernel_rfl) (hc:((xHi c).all fun d=>(E.lp (condId d)).isNone)=true:=by kernel_rfl):LoOk Tryz.prog Inv E c:=xlA h hl hc
end
end
end Go.Sim
end
noncomputable section
namespace Go.Sim
theorem sUF:(∀ {σ ρ:Type} (s:σ),(inL s:Option (σ⊕ρ))=some (.inl s))/\(∀ {σ ρ:Type} (p:ρ),(inR p:Option (σ⊕ρ))=some (.inr p))/\(∀ (l:List AV) (i:Int),ixI l i=(decide ((0:Int)<=i)&&decide (i<(↑l.length:Int))))/\(∀ (l:List AV) (i:Int) (s:Sh) (k:Nat),ixS l i s k=(decide (i.toNat<l.length)&&xG1 s ((l.getD i.toNat .top).cells.getD k .top)))/\(∀ (l:List AV) (i:Int) (n:Nat) (ss:List Sh) (k:Nat),ixT l i n ss k=(decide (i.toNat<l.length)&&((l.getD i.toNat .top).cells.length==n&&xG8 ss (l.getD i.toNat .top).cells k)))/\(∀ (l:List AV) (i:Int) (k:Nat),gC l i k=(l.getD i.toNat .top).cells.getD k .top)/\(∀ (n:Nat) (l:List AV) (c z:Nat),rmB n l c z=(n==l.length&&(decide ((n+c)*z<=140737488355328)&&decide (n+c<=4611686018427387904)))) :=
 ⟨fun _=>rfl,fun _=>rfl,fun _ _=>rfl,fun _ _ _ _=>rfl,fun _ _ _ _ _=>rfl,fun _ _ _=>rfl,fun _ _ _ _=>rfl⟩
theorem sBU:((∀ {α β:Type} {l:List α} (f:α->β),(l.map f).length=l.length)/\(∀ {T:Type} {a b:T},br true a b=a)/\(∀ {T:Type} {a b:T},br false a b=b)/\(∀ (h:Decidable True),@decide True h=true)/\(∀ (h:Decidable False),@decide False h=false) /\
  (∀ b:Bool,(b&&true)=b)/\(∀ b:Bool,(true&&b)=b)/\((!true)=false)/\((!false)=true)/\(∀ n:Nat,(n:Int).toNat=n)/\(∀ n:Nat,(0:Int)<=(n:Int))/\(∀ {α:Type} {a:α},(some a).isSome=true)/\(∀ {α:Type} {a b:α},(some a).getD b=a) /\
  (∀ {α:Type} [BEq α] [ReflBEq α] (a:α),(a==a)=true)/\(∀ n:Nat,0+n=n)/\(∀ n:Nat,n - 0=n))/\(∀ {σ ρ:Type} (s:σ),(inL s:Option (σ⊕ρ))=some (.inl s))/\(∀ {σ ρ:Type} (p:ρ),(inR p:Option (σ⊕ρ))=some (.inr p))/\(∀ (l:List AV) (i:Int),ixI l i=(decide ((0:Int)<=i)&&decide (i<(↑l.length:Int))))/\(∀ (l:List AV) (i:Int) (s:Sh) (k:Nat),ixS l i s k=(decide (i.toNat<l.length)&&xG1 s ((l.getD i.toNat .top).cells.getD k .top)))/\(∀ (l:List AV) (i:Int) (n:Nat) (ss:List Sh) (k:Nat),ixT l i n ss k=(decide (i.toNat<l.length)&&((l.getD i.toNat .top).cells.length==n&&xG8 ss (l.getD i.toNat .top).cells k)))/\(∀ (l:List AV) (i:Int) (k:Nat),gC l i k=(l.getD i.toNat .top).cells.getD k .top)/\(∀ (n:Nat) (l:List AV) (c z:Nat),rmB n l c z=(n==l.length&&(decide ((n+c)*z<=140737488355328)&&decide (n+c<=4611686018427387904)))) :=
 ⟨⟨za,rfl,rfl,fun h=>by simp,fun h=>by simp,zS,Bool.true_and,rfl,rfl,zN,Int.natCast_nonneg,rfl,rfl,fun a=>beq_self_eq_true a,zH,Nat.sub_zero⟩,sUF⟩
theorem sOO:(∀ {α:Type} {l:List α},l.drop 0=l)/\(∀ {α:Type} {l:List α} {i:Nat},l.length<=i->l.take i=l)/\(∀ n:Nat,0+n=n)/\(∀ {α β:Type} {l:List α} (f:α->β),(l.map f).length=l.length)/\(∀ n:Nat,n<=n)/\(∀ (h:Decidable True),@decide True h=true)/\(∀ b:Bool,(b&&true)=b)/\(∀ {T:Type} {a b:T},br true a b=a) /\
  (∀ {α:Type} {a:α},(some a).isSome=true)/\(∀ {α:Type} {a b:α},(some a).getD b=a) :=
 ⟨zr,zi,zH,za,zd,fun h=>by simp,zS,rfl,rfl,rfl⟩
end Go.Sim
noncomputable def Go.Sim.M.xFm:Go.Sim.EO:=Go.Sim.EO.mk Go.Sim.M.E0 Go.Sim.M.xC3
end
noncomputable section
set_option maxRecDepth 100000
namespace Go.Sim.M
open Go.IntKind (i64 u64 u8)
open Go.RowKit Go.Proofs
def xer {T:Type} (a:List UInt8) (δ:T) (κ:Int×Nat×LA->T):T:=br (decide ((byteAVs a).length*1<=140737488355328)&&decide ((byteAVs a).length<=4611686018427387904)) (κ ((↑a.length:Int),(byteAVs a).length,byteAVs a)) δ
def xb2 (a:List UInt8):=xer a none some
def xFo:EO:=xFm.fM Tryz.func123 19 1 [] [] lk0 (u2 (sEq (xHZ 0 0 0 0)) (sEq pStr)) (q1 (qB 0 2 157 (q1 (xHx (q2 pNilptr pNils))))) (fun (_,a,_) (((_,_,_),_),_) _=>xer a) (fun _ _ p=>(AV.tuple [AV.int .i64 p.1,.top],([⟨0,2,157,[AV.agg [AV.own 0 0 0 0,AV.osl 1 0 0 p.2.1]],false,false⟩,bF 0 1 5 p.2.2]:List Box))) (0,0,[])
def xed {T:Type} (a:List UInt8) (n:Nat) (b:LA) (δ:T) (κ:Int×Nat×LA->T):T:=br (n==b.length&&(decide ((n+(byteAVs a).length)*1<=140737488355328)&&decide (n+(byteAVs a).length<=4611686018427387904))) (κ ((↑a.length:Int),n+(byteAVs a).length,b++byteAVs a)) δ
def xbo (a:List UInt8) (n:Nat) (b:LA):=xed a n b none some
def xFp:EO:=xFo.fM Tryz.func123 19 2 [] [] lk0 (u2 (sEq (xHZ 0 0 0 0)) (sEq pStr)) (q2 (xH0 0 2 157 false false (q1 (xHx (q2 (xHZ 0 0 0 0) (xHY 1 0 0))))) (qB 0 1 5 xHQ)) (fun (_,a,_) (((_,n,_),_),b,_) _=>xed a n b) (fun _ _ p=>(AV.tuple [AV.int .i64 p.1,.top],([⟨0,2,157,[AV.agg [AV.own 0 0 0 0,AV.osl 1 1 0 p.2.1]],false,false⟩,bF 1 1 5 p.2.2]:List Box))) (0,0,[])
def xlN {T:Type} (a:List UInt8) (n:Nat) (b:LA) (δ:T) (κ:Int×Nat×LA->T):T:=br (n==b.length&&(decide ((n+(byteAVs a).length)*1<=140737488355328)&&decide (n+(byteAVs a).length<=4611686018427387904))) (κ ((↑a.length:Int),n+(byteAVs a).length,b++byteAVs a)) δ
def xzq:EO:=xFp.fM Tryz.func123 19 2 [] [] lk0 (u2 (sEq (xHZ 0 0 0 0)) (sEq pStr)) (q2 (xH0 0 2 157 false false (q1 (xHx (q2 (xHZ 0 0 0 0) (xHY 1 1 0))))) (qB 1 1 5 xHQ)) (fun (_,a,_) (((_,n,_),_),b,_) _=>xlN a n b) (fun _ _ p=>(AV.tuple [AV.int .i64 p.1,.top],([⟨0,2,157,[AV.agg [AV.own 0 0 0 0,AV.osl 1 2 0 p.2.1]],false,false⟩,bF 2 1 5 p.2.2]:List Box))) (0,0,[])
def xbn:Env:=xzq.E.fn 17 1 (lsOf []) (xHp [])
theorem xkW:xG3 P0 (xHL.at 1) xbn:=xzq.ok.fn
theorem xkd:LoOk P0 (xHL.at xbn.pin) xbn (Tryz.f125.body.getD .skip):=xe4 (by kernel_rfl)
def xfr (c:Int):Int:=((c))
def xgQ (c:Int):Bool:=true
def xhM {T:Type} (c:Int) (δ:T) (κ:Int->T):T:=κ (c)
theorem xm9 (c:Int):Pre (xgQ c) (XFM P0 xbn Tryz.f125 (Tryz.f125.body.getD .skip) [AV.own (0:Id) 0 0 0,AV.int .u8 c] [{ ver:=0,sz:=2,ty:=(157:TypeId),xs:=[AV.agg [AV.nilptr,AV.nils]],frz:=false,pm:=true }]) ((.top,([⟨0,2,157,[AV.agg [AV.own 0 0 0 0,AV.osl 1 0 0 1]],false,false⟩,⟨0,1,5,[AV.int .u8 (xfr c)],false,true⟩]:List Box))):=by
 have h:XFM P0 xbn Tryz.f125 (Tryz.f125.body.getD .skip) [AV.own (0:Id) 0 0 0,AV.int .u8 c] [{ ver:=0,sz:=2,ty:=(157:TypeId),xs:=[AV.agg [AV.nilptr,AV.nils]],frz:=false,pm:=true }]=xhM c none (fun (p:Int)=>some (((.top,([⟨0,2,157,[AV.agg [AV.own 0 0 0 0,AV.osl 1 0 0 1]],false,false⟩,⟨0,1,5,[AV.int .u8 p],false,true⟩]:List Box))):(AV×List Box))):=by kernel_rfl
 rw [h];unfold xfr xgQ xhM;repeat' (first|exact Pre.none|exact Pre.tt rfl|exact Pre.some rfl|refine Pre.l ?_|refine Pre.r ?_|refine Pre.br (f:=fun (p:Int)=>(((.top,([⟨0,2,157,[AV.agg [AV.own 0 0 0 0,AV.osl 1 0 0 1]],false,false⟩,⟨0,1,5,[AV.int .u8 p],false,true⟩]:List Box))):(AV×List Box))) ?_ ?_|refine Pre.brt (f:=fun (p:Int)=>(((.top,([⟨0,2,157,[AV.agg [AV.own 0 0 0 0,AV.osl 1 0 0 1]],false,false⟩,⟨0,1,5,[AV.int .u8 p],false,true⟩]:List Box))):(AV×List Box))) ?_ ?_)
def xm8:LA->List Box->Option (Bool×AV×List Box):=omOf (xHN (sEq (xHZ 0 0 0 0)) (xHN (sEq (pInt .u8)) xHP)) (xHM (xH0 0 2 (157:TypeId) false true (xHM (xHx (xHM pNilptr (xHM pNils xHO))) xHO)) xHO) fun (_,(c,_)) (((_,(_,_)),_),_)=>(true,((.top,([⟨0,2,157,[AV.agg [AV.own 0 0 0 0,AV.osl 1 0 0 1]],false,false⟩,⟨0,1,5,[AV.int .u8 (xfr c)],false,true⟩]:List Box))))
theorem xm7:OmOk P0 xHL 125 (xm8):=xlT fun b d h f e=>by
 obtain ⟨_,⟨c,_⟩⟩:=b;obtain ⟨⟨⟨_,⟨_,_⟩⟩,_⟩,_⟩:=d;obtain ⟨g,a⟩:=Prod.mk.inj e;refine xg1 (p:=xbn.pin) (xiH xHc (xHd P0 _) rfl xkW rfl Tryz.func125 rfl (by kernel_rfl) xkd ((Pre.get (xm9 _) rfl).trans ?_))
 exact congrArg some a
def xFq:EO:=xzq.wM xm7
def xhw {T:Type} (c:Int) (n:Nat) (a:LA) (δ:T) (κ:Nat×LA->T):T:=br (rmB n a 1 1) (κ (n+1,a++[AV.int .u8 c])) δ
def xiF (c:Int) (n:Nat) (a:LA):=xhw c n a none some
def xFr:EO:=xFq.fM Tryz.func125 17 2 [] [] lk0 (u2 (sEq (xHZ 0 0 0 0)) (sEq (pInt .u8))) (q2 (xH0 0 2 157 false false (q1 (xHx (q2 (xHZ 0 0 0 0) (xHY 1 0 0))))) (qB 0 1 5 xHQ)) (fun (_,c,_) (((_,n,_),_),a,_) _=>xhw c n a) (fun _ _ p=>(.top,([⟨0,2,157,[AV.agg [AV.own 0 0 0 0,AV.osl 1 1 0 p.1]],false,false⟩,bF 1 1 5 p.2]:List Box))) (0,[])
def xeI {T:Type} (c:Int) (n:Nat) (a:LA) (δ:T) (κ:Nat×LA->T):T:=br (rmB n a 1 1) (κ (n+1,a++[AV.int .u8 c])) δ
def xff (c:Int) (n:Nat) (a:LA):=xeI c n a none some
def xFs:EO:=xFr.fM Tryz.func125 17 2 [] [] lk0 (u2 (sEq (xHZ 0 0 0 0)) (sEq (pInt .u8))) (q2 (xH0 0 2 157 false false (q1 (xHx (q2 (xHZ 0 0 0 0) (xHY 1 1 0))))) (qB 1 1 5 xHQ)) (fun (_,c,_) (((_,n,_),_),a,_) _=>xeI c n a) (fun _ _ p=>(.top,([⟨0,2,157,[AV.agg [AV.own 0 0 0 0,AV.osl 1 2 0 p.1]],false,false⟩,bF 2 1 5 p.2]:List Box))) (0,[])
def xgw (a b:Int):Bool:=(br (decide (a>=0)) (br (decide (a<b)) ((decide (b<=1099511627776))) ((false))) ((false)))
def xum {T:Type} (a b:Int) (δ:T) (κ:Bool->T):T:=br (decide (a>=0)) (br (decide (a<b)) (κ (decide (b<=1099511627776))) (κ (false))) (κ (false))
def xzr:EO:=xFs.fT Tryz.func72 18 0 [] [] lk0 (fun ((a,b,_),_)=>xum a b none) (u1 (xH2 (u2 uI uI))) (fun ((a,b,_),_)=>xgw a b) (fun _ p=>(AV.bool p))
def xfk (b:Int) (a:LA):=((a.getD (0+b.toNat) .top).cells.getD 0 .top).toInt
def xjH (d:Int) (c:Nat) (b a:LA):=((xbo (Lib.itoa (xfk d b)) c a).getD (0,0,[])).snd
def xjG (d:Int) (c:Nat) (b a:LA):=xff 32 (xjH d c b a).fst (xjH d c b a).snd
def xjF (d:Int) (c:Nat) (b a:LA):=(xjG d c b a).getD (0,[])
def xhO {T:Type} (k:LA) (l j:Int) (e:Nat) (i c:Int) (d:Nat) (f g:Int) (h:List UInt8) (a b:LA) (δ:T) (κl:(Int×Nat×Int×Int×List UInt8×LA×LA)->T) (κr:(Nat×Int×Int×List UInt8×LA)->T):T:=br (decide (c<i)) (br (decide (0<=c)&&decide (c<(↑e:Int))) (br (decide (0+c.toNat<a.length)&&xG1 (Sh.int .i64) ((a.getD (0+c.toNat) .top).cells.getD 0 .top)) (br (decide ((-9223372036854775808)<=xfk c a)&&decide (xfk c a<=9223372036854775807)) (br ((xbo (Lib.itoa (xfk c a)) d b).isSome) (br ((xjG c d a b).isSome) (κl (i64.wrap (c+1),(xjF c d a b).fst,f,g,h,a,(xjF c d a b).snd)) δ) δ) δ) δ) δ) (κr (d,f,g,h,b))
def xbu (k:LA) (l e:Int) (c:Nat) (f:Int):StT (Int×Nat×Int×Int×List UInt8×LA×LA) (Nat×Int×Int×List UInt8×LA):=fun (g,d,h,i,j,b,a)=>xhO k l e c f g d h i j b a none inL inR
def xgY:=xzr.l 37 0 [] [] Tryz.f109 1 lk0 [3,5,8,9,10,21,22,23] [3,5,8,9,10] [] (q8 (xHZ 0 0 0 0) (xHZ 1 0 0 0) (qL 3) qI qI (xHY 2 0 0) qI qI) (q4 (xH0 0 2 157 false false (q1 (xHx (q2 (xHZ 0 0 0 0) (xHY 3 0 0))))) (qB 0 3 90 (q1 (xHx (q3 qI qI pStr)))) (qB 0 1 3 xHQ) (qB 0 1 5 xHQ)) (fun (_,_,k,m,e,c,f,g,_) (((_,d,_),_),((h,i,j,_),_),b,a,_)=>(xbu k m e c f,(g,d,h,i,j,b,a),fun p=>(.leaf (.exit 2) [AV.own 0 0 0 0,AV.own 1 0 0 0,AV.list 3 k,AV.int .i64 m,AV.int .i64 e] [⟨0,2,157,[AV.agg [AV.own 0 0 0 0,AV.osl 2 0 0 p.1]],false,false⟩,bF 0 3 90 [AV.agg [AV.int .i64 p.2.1,AV.int .i64 p.2.2.1,AV.str p.2.2.2.1]],bF 0 1 5 p.2.2.2.2]))) (0,0,0,[],[]) fun (_,_,k,m,e,c,f,_,_) _ (g,d,h,i,j,b,a)=>((((),(),k,m,e,c,f,g,()),((((),d,()),()),((h,i,j,()),()),b,a,())),xhO k m e c f g d h i j b a none)
def xjE (b:LA) (e a:Int) (d:Nat) (c:LA):=Iter (xbu b e a 3 3) (0,d,(gC b a 0).toInt,(gC b a 1).toInt,(gC b a 2).toStr,[AV.int .i64 (gC b a 0).toInt,AV.int .i64 (gC b a 1).toInt,AV.int .i64 (↑(gC b a 2).toStr.length:Int)],c)
def xjD (d:LA) (e c:Int) (b:Nat) (a:LA):=(xjE d e c b a).getD (0,0,0,[],[])
def xjC (d:LA) (e c:Int) (b:Nat) (a:LA):=(xjD d e c b a).snd.snd.snd
def xjB (d:LA) (e c:Int) (b:Nat) (a:LA):=xbo (xjC d e c b a).fst (xjD d e c b a).fst (xjC d e c b a).snd
def xjA (d:LA) (e c:Int) (b:Nat) (a:LA):=((xjB d e c b a).getD (0,0,[])).snd
def xhN {T:Type} (d:LA) (e b:Int) (c:Nat) (a:LA) (δ:T) (κl:(Int×Nat×LA)->T) (κr:(Nat×LA)->T):T:=br (decide (b<e)) (br (ixI d b) (br (ixT d b 3 [Sh.int .i64,Sh.int .i64,Sh.str] 0) (br ((xjE d e b c a).isSome) (br ((xjB d e b c a).isSome) (κl (i64.wrap (b+1),(xjA d e b c a).fst,(xjA d e b c a).snd)) δ) δ) δ) δ) (κr (c,a))
def xdh (d:LA) (e:Int):StT (Int×Nat×LA) (Nat×LA):=fun (c,b,a)=>xhN d e c b a none inL inR
def xnS:=xzr.l 37 0 [] [(6,xgY.lp)] Tryz.f109 0 (lk1 xgY.ok) [3,8,9,10] [3] [] (q4 (xHZ 0 0 0 0) (qL 3) qI qI) (q2 (xH0 0 2 157 false false (q1 (xHx (q2 (xHZ 0 0 0 0) (xHY 1 0 0))))) (qB 0 1 5 xHQ)) (fun (_,d,e,c,_) (((_,b,_),_),a,_)=>(xdh d e,(c,b,a),fun p=>(.leaf (.exit 0) [AV.own 0 0 0 0] [⟨0,2,157,[AV.agg [AV.own 0 0 0 0,AV.osl 1 0 0 p.1]],false,false⟩,bF 0 1 5 p.2]))) (0,[]) fun (_,d,e,_,_) _ (c,b,a)=>((((),d,e,c,()),((((),b,()),()),a,())),xhN d e c b a none)
def xcY (a:LA):=((a.getD 0 .top).cells.getD 0 .top).toInt
def xmc (a:LA):=xiF 32 ((xb2 (Lib.itoa (xcY a))).getD (0,0,[])).snd.fst ((xb2 (Lib.itoa (xcY a))).getD (0,0,[])).snd.snd
def xmb (a:LA):=(xmc a).getD (0,[])
def xma (a:LA):=Iter (xbu a (↑a.length:Int) 0 3 3) (1,(xmb a).fst,xcY a,((a.getD 0 .top).cells.getD 1 .top).toInt,((a.getD 0 .top).cells.getD 2 .top).toStr,[AV.int .i64 (xcY a),AV.int .i64 ((a.getD 0 .top).cells.getD 1 .top).toInt,AV.int .i64 (↑((a.getD 0 .top).cells.getD 2 .top).toStr.length:Int)],(xmb a).snd)
def xl9 (a:LA):=(xma a).getD (0,0,0,[],[])
def xl8 (a:LA):=(xl9 a).snd.snd.snd
def xl7 (a:LA):=xbo (xl8 a).fst (xl9 a).fst (xl8 a).snd
def xl6 (a:LA):=((xl7 a).getD (0,0,[])).snd
def xl5 (a:LA):=Iter (xdh a (↑a.length:Int)) (1,(xl6 a).fst,(xl6 a).snd)
def xl4 (a:LA):=(xl5 a).getD (0,[])
def xgZ (a:LA):=(xl4 a).snd
def xnf {T:Type} (a:LA) (δ:T) (κ:List UInt8->T):T:=br (decide (0<(↑a.length:Int))) (br (decide (0<(↑a.length:Int))) (br (decide (0<a.length)&&((a.getD 0 .top).cells.length==3&&xG8 [Sh.int .i64,Sh.int .i64,Sh.str] (a.getD 0 .top).cells 0)) (br (decide ((-9223372036854775808)<=xcY a)&&decide (xcY a<=9223372036854775807)) (br ((xb2 (Lib.itoa (xcY a))).isSome) (br ((xmc a).isSome) (br ((xma a).isSome) (br ((xl7 a).isSome) (br ((xl5 a).isSome) (br (decide ((xl4 a).fst=(xgZ a).length)&&isBytes (xgZ a)&&decide ((xgZ a).length≠0)) (κ (strOf (xgZ a))) δ) δ) δ) δ) δ) δ) δ) δ) δ) (κ ([]))
def xjz (a:LA):=xnf a none some
def xFt:EO:=xzr.f Tryz.func109 37 0 [] [(6,xgY.lp),(3,xnS.lp)] (lks (lkC xnS.ok (lkC xgY.ok lkN))) (u1 (uL 3)) (fun (a,_) _=>xnf a) (fun _ p=>AV.str p) []
def xiG (x:Int):Bool:=((x != x))
def xw6 {T:Type} (x:Int) (δ:T) (κ:Bool->T):T:=κ (x != x)
def xFu:EO:=xFt.fT Tryz.func77 6 0 [] [] lk0 (fun (x,_)=>xw6 x none) (u1 uI) (fun (x,_)=>xiG x) (fun _ p=>(AV.bool p))
def xcv (x y:Int):Int:=(br (xiG x) (br (xiG y) ((0)) (((-1)))) (br (xiG y) ((1)) (br (decide (x<y)) (((-1))) (br (decide (x>y)) ((1)) ((0))))))
def xvh {T:Type} (x y:Int) (δ:T) (κ:Int->T):T:=br (xiG x) (br (xiG y) (κ (0)) (κ ((-1)))) (br (xiG y) (κ (1)) (br (decide (x<y)) (κ ((-1))) (br (decide (x>y)) (κ (1)) (κ (0)))))
def xzs:EO:=xFu.fT Tryz.func51 20 0 [] [] lk0 (fun (x,y,_)=>xvh x y none) (u2 uI uI) (fun (x,y,_)=>xcv x y) (fun _ p=>(AV.int .i64 p))
def xjv:Env:=xzs.E.fn 18 0 (lsOf []) (xHp [])
theorem xvS:xG3 P0 (xHL.at 0) xjv:=xzs.ok.fn
theorem xue:LoOk P0 (xHL.at xjv.pin) xjv (Tryz.f73.body.getD .skip):=xlA (ls:=[xG7 Tryz.f73 0]) (by kernel_rfl) (fun l a lp b=>by
 simp only [zC,List.not_mem_nil,or_false] at a;rcases a with rfl
 . rw [show xjv.lp (xHh (xG7 Tryz.f73 0))=none by kernel_rfl] at b
   simp at b)
def xoW (a b c:Int):Int:=(br (a != 0) ((a)) (br (b != 0) ((b)) (br (c != 0) ((c)) ((0)))))
def xtd (a b c:Int):Bool:=true
def xvT {T:Type} (a b c:Int) (δ:T) (κ:Int->T):T:=br (a != 0) (κ (a)) (br (b != 0) (κ (b)) (br (c != 0) (κ (c)) (κ (0))))
theorem xCj (a b c:Int):Pre (xtd a b c) (XF P0 xjv Tryz.f73 (Tryz.f73.body.getD .skip) [AV.list 1 [AV.int .i64 a,AV.int .i64 b,AV.int .i64 c]]) (AV.int .i64 (xoW a b c)):=by
 have h:XF P0 xjv Tryz.f73 (Tryz.f73.body.getD .skip) [AV.list 1 [AV.int .i64 a,AV.int .i64 b,AV.int .i64 c]]=xvT a b c none (fun (p:Int)=>some ((AV.int .i64 p):AV)):=by kernel_rfl
 rw [h];unfold xoW xtd xvT;repeat' (first|exact Pre.none|exact Pre.tt rfl|exact Pre.some rfl|refine Pre.l ?_|refine Pre.r ?_|refine Pre.br (f:=fun (p:Int)=>((AV.int .i64 p):AV)) ?_ ?_|refine Pre.brt (f:=fun (p:Int)=>((AV.int .i64 p):AV)) ?_ ?_)
def xCi:LA->Option (Bool×AV):=ocOf (xHN (xH1 1 (xHM (pInt .i64) (xHM (pInt .i64) (xHM (pInt .i64) xHO)))) xHP) fun ((a,(b,(c,_))),_)=>(true,(AV.int .i64 (xoW a b c)))
theorem xCh:OcOk P0 xHL 73 (xCi):=xlS fun e h f=>by
 obtain ⟨⟨a,⟨b,⟨c,_⟩⟩⟩,_⟩:=e;obtain ⟨g,d⟩:=Prod.mk.inj f;refine xiR (p:=xjv.pin) (xlR xHc (xHd P0 _) rfl xvS Tryz.func73 rfl (by kernel_rfl) xue ((Pre.get (xCj _ _ _) rfl).trans ?_))
 exact congrArg some d
def xFv:EO:=xzs.w xCh
def xbz (a b:Int) (c:List UInt8) (d e:Int) (f:List UInt8):Int:=((xoW (xcv a d) (xcv b e) (Lib.compareBytes c f)))
def xt1 {T:Type} (a b:Int) (c:List UInt8) (d e:Int) (f:List UInt8) (δ:T) (κ:Int->T):T:=κ (xoW (xcv a d) (xcv b e) (Lib.compareBytes c f))
def xC5:EO:=xFv.fT Tryz.func94 22 0 [] [] lk0 (fun ((a,b,c,_),(d,e,f,_),_)=>xt1 a b c d e f none) (u2 (xH2 (u3 uI uI (sEq pStr))) (xH2 (u3 uI uI (sEq pStr)))) (fun ((a,b,c,_),(d,e,f,_),_)=>xbz a b c d e f) (fun _ p=>(AV.int .i64 p))
def xb8 (c b:LA) (a:Int):=xbz (gC b a 0).toInt (gC b a 1).toInt (gC b a 2).toStr (gC c a 0).toInt (gC c a 1).toInt (gC c a 2).toStr
def xci {T:Type} (e c b:LA) (d a:Int) (δ:T) (κl:(Int)->T) (κr:(Bool×(Int)×(Unit))->T):T:=br (decide (a<d)) (br (ixI b a) (br (ixT b a 3 [Sh.int .i64,Sh.int .i64,Sh.str] 0) (br (decide (a>=c.length)) (κr (true,(1),())) (br (ixI c a) (br (ixT c a 3 [Sh.int .i64,Sh.int .i64,Sh.str] 0) (br (xb8 c b a != 0) (κr (true,(xb8 c b a),())) (κl (i64.wrap (a+1)))) δ) δ)) δ) δ) (κr (false,0,()))
def xa1 (d e a:LA) (b:Int):StT (Int) (Bool×(Int)×(Unit)):=fun (c)=>xci d e a b c none inL inR
def xj4:=xC5.l 39 0 [] [] Tryz.f93 0 lk0 [0,1,2,11,12,13] [0,1,6] [] (q6 (qL 3) (qL 3) (xHq 94 xHO) (qL 3) qI qI) xHO (fun (d,e,_,a,b,c,_) _=>(xa1 d e a b,(c),fun p=>(.node p.1 (.leaf .ret [AV.list 3 d,AV.list 3 e,AV.int .i64 p.2.1] []) (.leaf (.exit 0) [AV.list 3 d,AV.list 3 e,.top] [])))) (false,0,()) fun (d,e,_,a,b,_,_) _ (c)=>(((d,e,(),a,b,c,()),()),xci d e a b c none)
def xi0 {T:Type} (a b:LA) (δ:T) (κ:Int->T):T:=br ((Iter (xa1 a b a (↑a.length:Int)) 0).isSome) (br (((Iter (xa1 a b a (↑a.length:Int)) 0).getD (false,0,())).fst) (κ (((Iter (xa1 a b a (↑a.length:Int)) 0).getD (false,0,())).snd.fst)) (br (decide ((↑a.length:Int)<(↑b.length:Int))) (κ ((-1))) (κ (0)))) δ
def xj3 (a b:LA):=xi0 a b none some
def xFw:EO:=xC5.f Tryz.func93 39 0 [] [(2,xj4.lp)] (lk1 xj4.ok) (u3 (uL 3) (uL 3) (sEq (xHq (94:FuncId) xHO))) (fun (a,b,_,_) _=>xi0 a b) (fun _ p=>AV.int .i64 p) 0
def xm5 {T:Type} (a b:LA) (δ:T) (κ:Int->T):T:=br ((xj3 a b).isSome) (κ ((xj3 a b).getD 0)) δ
def xgX (a b:LA):=xm5 a b none some
def xFy:EO:=xFw.f Tryz.func75 8 0 [] [] lk0 (u2 (uL 3) (uL 3)) (fun (a,b,_) _=>xm5 a b) (fun _ p=>AV.int .i64 p) 0
def xli {T:Type} (a c b d:LA) (δ:T) (κ:Int->T):T:=br ((xgX a b).isSome) (κ ((xgX a b).getD 0)) δ
def xdi (c a d b:LA):=xli c a d b none some
def xzt:EO:=xFy.f Tryz.func111 10 0 [] [] lk0 (u2 (xH2 (u2 (uL 3) (uL 2))) (xH2 (u2 (uL 3) (uL 2)))) (fun ((c,a,_),(d,b,_),_) _=>xli c a d b) (fun _ p=>AV.int .i64 p) 0
def xdq (a:Nat) (j:Int):=decide (0<=i64.wrap (j - 1))&&decide (i64.wrap (j - 1)<(↑a:Int))
def xbx (j:Int):Nat:=0+(i64.wrap (j - 1)).toNat
def xdr (a:Nat) (j:Int):=decide (0<=j)&&decide (j<(↑a:Int))
def xfL (j:Int) (a:LA):=decide (0+j.toNat<a.length)
def xfJ (j:Int) (a:LA):=xfL j a&&((a.getD (0+j.toNat) .top).cells.length==2&&xG8 [Sh.list 3,Sh.list 2] (a.getD (0+j.toNat) .top).cells 0)
def xa3 (j:Int) (a:LA):=(a.getD (xbx j) .top).cells
def xfH (j:Int) (a:LA):=decide (xbx j<a.length)&&((xa3 j a).length==2&&xG8 [Sh.list 3,Sh.list 2] (xa3 j a) 0)
def xfI (j:Int) (a:LA):=xdi ((a.getD (0+j.toNat) .top).cells.getD 0 .top).toList ((a.getD (0+j.toNat) .top).cells.getD 1 .top).toList ((xa3 j a).getD 0 .top).toList ((xa3 j a).getD 1 .top).toList
def xfK (j:Int) (a:LA):=a.set (0+j.toNat) (AV.agg [AV.list 3 ((xa3 j a).getD 0 .top).toList,AV.list 2 ((xa3 j a).getD 1 .top).toList])
def xf0 {T:Type} (d:Nat) (a b i j:Int) (c:LA) (δ:T) (κl:(Int×LA)->T) (κr:(LA)->T):T:=br (decide (j>a)) (br (xdr d j) (br (xfJ j c) (br (xdq d j) (br (xfH j c) (br ((xfI j c).isSome) (br (decide ((xfI j c).getD 0<0)) (br (xdq d j) (br (xfH j c) (br (xdr d j) (br (xfJ j c) (br (xdr d j) (br (xfL j c) (br (xdq d j) (br (decide (xbx j<(xfK j c).length)) (κl (i64.wrap (j - 1),(xfK j c).set (xbx j) (AV.agg [AV.list 3 ((c.getD (0+j.toNat) .top).cells.getD 0 .top).toList,AV.list 2 ((c.getD (0+j.toNat) .top).cells.getD 1 .top).toList]))) δ) δ) δ) δ) δ) δ) δ) δ) (κr (c))) δ) δ) δ) δ) δ) (κr (c))
def xbI (d:Nat) (a b i:Int):StT (Int×LA) (LA):=fun (j,c)=>xf0 d a b i j c none inL inR
def xbZ:=xzt.l 53 1 [124] [] Tryz.f144 1 lk0 [0,1,2,3,8,9] [0,1,2,3,8] [] (q6 (xHY 0 0 0) qI qI (xHq 111 xHO) qI qI) (q1 (qB 0 2 124 xHQ)) (fun (c,a,b,_,i,j,_) (d,_)=>(xbI c a b i,(j,d),fun p=>(.leaf (.exit 2) [AV.osl 0 0 0 c,AV.int .i64 a,AV.int .i64 b,AV.func 111 [],AV.int .i64 i] [bF 0 2 124 p]))) [] fun (c,a,b,_,i,_,_) _ (j,d)=>(((c,a,b,(),i,j,()),(d,())),xf0 c a b i j d none)
def xfx {T:Type} (d:Nat) (a b i:Int) (c:LA) (δ:T) (κl:(Int×LA)->T) (κr:(LA)->T):T:=br (decide (i<b)) (br ((Iter (xbI d a b i) (i,c)).isSome) (κl (i64.wrap (i+1),(Iter (xbI d a b i) (i,c)).getD [])) δ) (κr (c))
def xbH (d:Nat) (a b:Int):StT (Int×LA) (LA):=fun (i,c)=>xfx d a b i c none inL inR
def xfG:=xzt.l 53 1 [124] [(4,xbZ.lp)] Tryz.f144 0 (lk1 xbZ.ok) [0,1,2,3,8] [] [] (q5 (xHY 0 0 0) qI qI (xHq 111 xHO) qI) (q1 (qB 0 2 124 xHQ)) (fun (d,a,b,_,i,_) (c,_)=>(xbH d a b,(i,c),fun p=>(.leaf (.exit 0) [] [bF 0 2 124 p]))) [] fun (d,a,b,_,_,_) _ (i,c)=>(((d,a,b,(),i,()),(c,())),xfx d a b i c none)
def xep {T:Type} (n:Nat) (a b:Int) (c:LA) (δ:T) (κ:LA->T):T:=br ((Iter (xbH n a b) (i64.wrap (a+1),c)).isSome) (κ ((Iter (xbH n a b) (i64.wrap (a+1),c)).getD [])) δ
def xbr (n:Nat) (a b:Int) (c:LA):=xep n a b c none some
def xC6:EO:=xzt.fM Tryz.func144 53 1 [124] [(4,xbZ.lp),(1,xfG.lp)] (lks (lkC xfG.ok (lkC xbZ.ok lkN))) (u4 (sEq (xHY 0 0 0)) uI uI (sEq (xHq (111:FuncId) xHO))) (q1 (qB 0 2 124 xHQ)) (fun (n,a,b,_,_) (c,_) _=>xep n a b c) (fun _ _ p=>(AV.tuple [],([bF 0 2 124 p]:List Box))) []
def xgN (a i:Int) (b:LA):=decide (0+(i64.wrap (a+i)).toNat<b.length)
def xcs (a i:Int) (b:LA):=(b.getD (0+(i64.wrap (a+i)).toNat) .top).cells
def xgO (a:Nat) (b i:Int):=decide (0<=i64.wrap (b+i))&&decide (i64.wrap (b+i)<(↑a:Int))
def xgP (b:Nat) (a i:Int):=decide (0<=i64.wrap (a+i))&&decide (i64.wrap (a+i)<(↑b:Int))
def xcu (b i:Int):Nat:=0+(i64.wrap (b+i)).toNat
def xct (b i:Int) (a:LA):=(a.getD (xcu b i) .top).cells
def xgM (a b i:Int) (c:LA):=c.set (0+(i64.wrap (a+i)).toNat) (AV.agg [AV.list 3 ((xct b i c).getD 0 .top).toList,AV.list 2 ((xct b i c).getD 1 .top).toList])
def xhi {T:Type} (d:Nat) (a b n i:Int) (c:LA) (δ:T) (κl:(Int×LA)->T) (κr:(LA)->T):T:=br (decide (i<n)) (br (xgO d b i) (br (decide (xcu b i<c.length)&&((xct b i c).length==2&&xG8 [Sh.list 3,Sh.list 2] (xct b i c) 0)) (br (xgP d a i) (br (xgN a i c&&((xcs a i c).length==2&&xG8 [Sh.list 3,Sh.list 2] (xcs a i c) 0)) (br (xgP d a i) (br (xgN a i c) (br (xgO d b i) (br (decide (xcu b i<(xgM a b i c).length)) (κl (i64.wrap (i+1),(xgM a b i c).set (xcu b i) (AV.agg [AV.list 3 ((xcs a i c).getD 0 .top).toList,AV.list 2 ((xcs a i c).getD 1 .top).toList]))) δ) δ) δ) δ) δ) δ) δ) δ) (κr (c))
def xcb (d:Nat) (a b n:Int):StT (Int×LA) (LA):=fun (i,c)=>xhi d a b n i c none inL inR
def xgL:=xC6.l 38 1 [124] [] Tryz.f173 0 lk0 [0,1,2,3,10] [] [] (q5 (xHY 0 0 0) qI qI qI qI) (q1 (qB 0 2 124 xHQ)) (fun (d,a,b,n,i,_) (c,_)=>(xcb d a b n,(i,c),fun p=>(.leaf (.exit 0) [] [bF 0 2 124 p]))) [] fun (d,a,b,n,_,_) _ (i,c)=>(((d,a,b,n,i,()),(c,())),xhi d a b n i c none)
def xfq {T:Type} (n:Nat) (a b k:Int) (c:LA) (δ:T) (κ:LA->T):T:=br ((Iter (xcb n a b k) (0,c)).isSome) (κ ((Iter (xcb n a b k) (0,c)).getD [])) δ
def xbc (n:Nat) (a b k:Int) (c:LA):=xfq n a b k c none some
def xC7:EO:=xC6.fM Tryz.func173 38 1 [124] [(1,xgL.lp)] (lk1 xgL.ok) (u5 (sEq (xHY 0 0 0)) uI uI uI (sEq (xHq (111:FuncId) xHO))) (q1 (qB 0 2 124 xHQ)) (fun (n,a,b,k,_,_) (c,_) _=>xfq n a b k c) (fun _ _ p=>(AV.tuple [],([bF 0 2 124 p]:List Box))) []
def xiK {T:Type} (b:Nat) (m i j:Int) (a:LA) (δ:T) (κl:(Int×Int×LA)->T) (κr:(Int×LA)->T):T:=br (i != j) (br (decide (i>j)) (br ((xbc b (i64.wrap (m - i)) m j a).isSome) (κl (i64.wrap (i - j),j,(xbc b (i64.wrap (m - i)) m j a).getD [])) δ) (br ((xbc b (i64.wrap (m - i)) (i64.wrap (i64.wrap (m+j) - i)) i a).isSome) (κl (i,i64.wrap (j - i),(xbc b (i64.wrap (m - i)) (i64.wrap (i64.wrap (m+j) - i)) i a).getD [])) δ)) (κr (i,a))
def xeF (b:Nat) (m:Int):StT (Int×Int×LA) (Int×LA):=fun (i,j,a)=>xiK b m i j a none inL inR
def xik:=xC7.l 58 1 [124] [] Tryz.f163 0 lk0 [0,2,4,10,11] [0,2,4,10] [] (q5 (xHY 0 0 0) qI (xHq 111 xHO) qI qI) (q1 (qB 0 2 124 xHQ)) (fun (a,m,_,i,j,_) (b,_)=>(xeF a m,(i,j,b),fun p=>(.leaf (.exit 0) [AV.osl 0 0 0 a,AV.int .i64 m,AV.func 111 [],AV.int .i64 p.1] [bF 0 2 124 p.2]))) (0,[]) fun (a,m,_,_,_,_) _ (i,j,b)=>(((a,m,(),i,j,()),(b,())),xiK a m i j b none)
def xgg (n:Nat) (a m b:Int) (c:LA):=Iter (xeF n m) (i64.wrap (m - a),i64.wrap (b - m),c)
def xgf (n:Nat) (a m b:Int) (c:LA):=(xgg n a m b c).getD (0,[])
def xge (n:Nat) (a m b:Int) (c:LA):=(xgf n a m b c).fst
def xgd (n:Nat) (a m b:Int) (c:LA):=xbc n (i64.wrap (m - xge n a m b c)) m (xge n a m b c) (xgf n a m b c).snd
def xgC {T:Type} (n:Nat) (a m b:Int) (c:LA) (δ:T) (κ:LA->T):T:=br ((xgg n a m b c).isSome) (br ((xgd n a m b c).isSome) (κ ((xgd n a m b c).getD [])) δ) δ
def xbY (n:Nat) (a m b:Int) (c:LA):=xgC n a m b c none some
def xoI:EO:=xC7.fM Tryz.func163 58 1 [124] [(2,xik.lp)] (lk1 xik.ok) (u5 (sEq (xHY 0 0 0)) uI uI uI (sEq (xHq (111:FuncId) xHO))) (q1 (qB 0 2 124 xHQ)) (fun (n,a,m,b,_,_) (c,_) _=>xgC n a m b c) (fun _ _ p=>(AV.tuple [],([bF 0 2 124 p]:List Box))) []
def xbj (i j:Int):=i64.wrap ((u64.wrap (i64.wrap (i+j))).fdiv 2)
def xcL (i j:Int) (a:LA):=(a.getD (0+(xbj i j).toNat) .top).cells
def xhj (a i j:Int) (b:LA):=xdi ((xcL i j b).getD 0 .top).toList ((xcL i j b).getD 1 .top).toList ((b.getD (0+a.toNat) .top).cells.getD 0 .top).toList ((b.getD (0+a.toNat) .top).cells.getD 1 .top).toList
def xhH {T:Type} (c:Nat) (a i j:Int) (b:LA) (δ:T) (κl:(Int×Int×LA)->T) (κr:(Int×LA)->T):T:=br (decide (i<j)) (br (decide (0<=xbj i j)&&decide (xbj i j<(↑c:Int))) (br (decide (0+(xbj i j).toNat<b.length)&&((xcL i j b).length==2&&xG8 [Sh.list 3,Sh.list 2] (xcL i j b) 0)) (br (decide (0<=a)&&decide (a<(↑c:Int))) (br (decide (0+a.toNat<b.length)&&((b.getD (0+a.toNat) .top).cells.length==2&&xG8 [Sh.list 3,Sh.list 2] (b.getD (0+a.toNat) .top).cells 0)) (br ((xhj a i j b).isSome) (br (decide ((xhj a i j b).getD 0<0)) (κl (i64.wrap (xbj i j+1),j,b)) (κl (i,xbj i j,b))) δ) δ) δ) δ) δ) (κr (i,b))
def xbC (c:Nat) (a:Int):StT (Int×Int×LA) (Int×LA):=fun (i,j,b)=>xhH c a i j b none inL inR
def xa5:=xoI.l 220 1 [124] [] Tryz.f145 0 lk0 [0,1,4,10,11] [0,1,10] [] (q5 (xHY 0 0 0) qI (xHq 111 xHO) qI qI) (q1 (qB 0 2 124 xHQ)) (fun (b,a,_,i,j,_) (c,_)=>(xbC b a,(i,j,c),fun p=>(.leaf (.exit 0) [AV.osl 0 0 0 b,AV.int .i64 a,AV.int .i64 p.1] [bF 0 2 124 p.2]))) (0,[]) fun (b,a,_,_,_,_) _ (i,j,c)=>(((b,a,(),i,j,()),(c,())),xhH b a i j c none)
def xhl (a:Nat) (k:Int):=decide (0<=i64.wrap (k+1))&&decide (i64.wrap (k+1)<(↑a:Int))
def xcN (k:Int):Nat:=0+(i64.wrap (k+1)).toNat
def xhm (k:Int) (a:LA):=decide (0+k.toNat<a.length)
def xcM (k:Int) (a:LA):=(a.getD (xcN k) .top).cells
def xhk (k:Int) (a:LA):=a.set (0+k.toNat) (AV.agg [AV.list 3 ((xcM k a).getD 0 .top).toList,AV.list 2 ((xcM k a).getD 1 .top).toList])
def xhI {T:Type} (b:Nat) (i k:Int) (a:LA) (δ:T) (κl:(Int×LA)->T) (κr:(LA)->T):T:=br (decide (k<i64.wrap (i - 1))) (br (xhl b k) (br (decide (xcN k<a.length)&&((xcM k a).length==2&&xG8 [Sh.list 3,Sh.list 2] (xcM k a) 0)) (br (decide (0<=k)&&decide (k<(↑b:Int))) (br (xhm k a&&((a.getD (0+k.toNat) .top).cells.length==2&&xG8 [Sh.list 3,Sh.list 2] (a.getD (0+k.toNat) .top).cells 0)) (br (decide (0<=k)&&decide (k<(↑b:Int))) (br (xhm k a) (br (xhl b k) (br (decide (xcN k<(xhk k a).length)) (κl (i64.wrap (k+1),(xhk k a).set (xcN k) (AV.agg [AV.list 3 ((a.getD (0+k.toNat) .top).cells.getD 0 .top).toList,AV.list 2 ((a.getD (0+k.toNat) .top).cells.getD 1 .top).toList]))) δ) δ) δ) δ) δ) δ) δ) δ) (κr (a))
def xea (b:Nat) (i:Int):StT (Int×LA) (LA):=fun (k,a)=>xhI b i k a none inL inR
def xbk:=xoI.l 220 1 [124] [(3,xa5.lp)] Tryz.f145 1 lk0 [0,10,13] [] [] (q3 (xHY 0 0 0) qI qI) (q1 (qB 0 2 124 xHQ)) (fun (b,i,k,_) (a,_)=>(xea b i,(k,a),fun p=>(.leaf (.exit 2) [] [bF 0 2 124 p]))) [] fun (b,i,_,_) _ (k,a)=>(((b,i,k,()),(a,())),xhI b i k a none)
def xbl (i j:Int):=i64.wrap ((u64.wrap (i64.wrap (i+j))).fdiv 2)
def xcO (i j:Int) (a:LA):=(a.getD (0+(xbl i j).toNat) .top).cells
def xhn (m i j:Int) (a:LA):=xdi ((a.getD (0+m.toNat) .top).cells.getD 0 .top).toList ((a.getD (0+m.toNat) .top).cells.getD 1 .top).toList ((xcO i j a).getD 0 .top).toList ((xcO i j a).getD 1 .top).toList
def xhJ {T:Type} (b:Nat) (m i j:Int) (a:LA) (δ:T) (κl:(Int×Int×LA)->T) (κr:(Int×LA)->T):T:=br (decide (i<j)) (br (decide (0<=m)&&decide (m<(↑b:Int))) (br (decide (0+m.toNat<a.length)&&((a.getD (0+m.toNat) .top).cells.length==2&&xG8 [Sh.list 3,Sh.list 2] (a.getD (0+m.toNat) .top).cells 0)) (br (decide (0<=xbl i j)&&decide (xbl i j<(↑b:Int))) (br (decide (0+(xbl i j).toNat<a.length)&&((xcO i j a).length==2&&xG8 [Sh.list 3,Sh.list 2] (xcO i j a) 0)) (br ((xhn m i j a).isSome) (br (!decide ((xhn m i j a).getD 0<0)) (κl (i64.wrap (xbl i j+1),j,a)) (κl (i,xbl i j,a))) δ) δ) δ) δ) δ) (κr (i,a))
def xbD (b:Nat) (m:Int):StT (Int×Int×LA) (Int×LA):=fun (i,j,a)=>xhJ b m i j a none inL inR
def xbW:=xoI.l 220 1 [124] [(3,xa5.lp),(9,xbk.lp)] Tryz.f145 2 lk0 [0,2,4,14,15] [0,2,14] [] (q5 (xHY 0 0 0) qI (xHq 111 xHO) qI qI) (q1 (qB 0 2 124 xHQ)) (fun (a,m,_,i,j,_) (b,_)=>(xbD a m,(i,j,b),fun p=>(.leaf (.exit 4) [AV.osl 0 0 0 a,AV.int .i64 m,AV.int .i64 p.1] [bF 0 2 124 p.2]))) (0,[]) fun (a,m,_,_,_,_) _ (i,j,b)=>(((a,m,(),i,j,()),(b,())),xhJ a m i j b none)
def xhp (a:Nat) (k:Int):=decide (0<=i64.wrap (k - 1))&&decide (i64.wrap (k - 1)<(↑a:Int))
def xcR (k:Int):Nat:=0+(i64.wrap (k - 1)).toNat
def xhq (k:Int) (a:LA):=decide (0+k.toNat<a.length)
def xcQ (k:Int) (a:LA):=(a.getD (xcR k) .top).cells
def xho (k:Int) (a:LA):=a.set (0+k.toNat) (AV.agg [AV.list 3 ((xcQ k a).getD 0 .top).toList,AV.list 2 ((xcQ k a).getD 1 .top).toList])
def xhK {T:Type} (b:Nat) (i k:Int) (a:LA) (δ:T) (κl:(Int×LA)->T) (κr:(LA)->T):T:=br (decide (k>i)) (br (xhp b k) (br (decide (xcR k<a.length)&&((xcQ k a).length==2&&xG8 [Sh.list 3,Sh.list 2] (xcQ k a) 0)) (br (decide (0<=k)&&decide (k<(↑b:Int))) (br (xhq k a&&((a.getD (0+k.toNat) .top).cells.length==2&&xG8 [Sh.list 3,Sh.list 2] (a.getD (0+k.toNat) .top).cells 0)) (br (decide (0<=k)&&decide (k<(↑b:Int))) (br (xhq k a) (br (xhp b k) (br (decide (xcR k<(xho k a).length)) (κl (i64.wrap (k - 1),(xho k a).set (xcR k) (AV.agg [AV.list 3 ((a.getD (0+k.toNat) .top).cells.getD 0 .top).toList,AV.list 2 ((a.getD (0+k.toNat) .top).cells.getD 1 .top).toList]))) δ) δ) δ) δ) δ) δ) δ) δ) (κr (a))
def xeb (b:Nat) (i:Int):StT (Int×LA) (LA):=fun (k,a)=>xhK b i k a none inL inR
def xcP:=xoI.l 220 1 [124] [(3,xa5.lp),(9,xbk.lp),(15,xbW.lp)] Tryz.f145 3 lk0 [0,14,17] [] [] (q3 (xHY 0 0 0) qI qI) (q1 (qB 0 2 124 xHQ)) (fun (b,i,k,_) (a,_)=>(xeb b i,(k,a),fun p=>(.leaf (.exit 6) [] [bF 0 2 124 p]))) [] fun (b,i,_,_) _ (k,a)=>(((b,i,k,()),(a,())),xhK b i k a none)
def xaP (a r:Int):=i64.wrap ((u64.wrap (i64.wrap (a+r))).fdiv 2)
def xcS (c b r:Int) (a:LA):=(a.getD (0+(i64.wrap (c - xaP b r)).toNat) .top).cells
def xcT (b r:Int) (a:LA):=(a.getD (0+(xaP b r).toNat) .top).cells
def xhr (c b r:Int) (a:LA):=xdi ((xcS c b r a).getD 0 .top).toList ((xcS c b r a).getD 1 .top).toList ((xcT b r a).getD 0 .top).toList ((xcT b r a).getD 1 .top).toList
def xhL {T:Type} (e:Nat) (a m b g n f c r:Int) (d:LA) (δ:T) (κl:(Int×Int×LA)->T) (κr:(Int×LA)->T):T:=br (decide (c<r)) (br (decide (0<=i64.wrap (f - xaP c r))&&decide (i64.wrap (f - xaP c r)<(↑e:Int))) (br (decide (0+(i64.wrap (f - xaP c r)).toNat<d.length)&&((xcS f c r d).length==2&&xG8 [Sh.list 3,Sh.list 2] (xcS f c r d) 0)) (br (decide (0<=xaP c r)&&decide (xaP c r<(↑e:Int))) (br (decide (0+(xaP c r).toNat<d.length)&&((xcT c r d).length==2&&xG8 [Sh.list 3,Sh.list 2] (xcT c r d) 0)) (br ((xhr f c r d).isSome) (br (!decide ((xhr f c r d).getD 0<0)) (κl (i64.wrap (xaP c r+1),r,d)) (κl (c,xaP c r,d))) δ) δ) δ) δ) δ) (κr (c,d))
def xcp (d:Nat) (a m b f n g:Int):StT (Int×Int×LA) (Int×LA):=fun (e,r,c)=>xhL d a m b f n g e r c none inL inR
def xeH:=xoI.l 220 1 [124] [(3,xa5.lp),(9,xbk.lp),(15,xbW.lp),(21,xcP.lp)] Tryz.f145 4 lk0 [0,1,2,3,4,18,19,20,21,22] [0,1,2,3,4,18,19,20] [] (q10 (xHY 0 0 0) qI qI qI (xHq 111 xHO) qI qI qI qI qI) (q1 (qB 0 2 124 xHQ)) (fun (c,a,m,b,_,f,n,e,r,g,_) (d,_)=>(xcp c a m b f n g,(e,r,d),fun p=>(.leaf (.exit 8) [AV.osl 0 0 0 c,AV.int .i64 a,AV.int .i64 m,AV.int .i64 b,AV.func 111 [],AV.int .i64 f,AV.int .i64 n,AV.int .i64 p.1] [bF 0 2 124 p.2]))) (0,[]) fun (c,a,m,b,_,f,n,_,_,g,_) _ (e,r,d)=>(((c,a,m,b,(),f,n,e,r,g,()),(d,())),xhL c a m b f n g e r d none)
def xeQ (R:Nat->Int->Int->Int->LA->Option (LA)):LA->List Box->Option (Bool×AV×List Box):=omOf (xHN (sEq (xHY 0 0 0)) (xHN (sEq (pInt .i64)) (xHN (sEq (pInt .i64)) (xHN (sEq (pInt .i64)) (xHN (sEq (xHq (111:FuncId) xHO)) xHP))))) (xHM (xH0 0 2 (124:TypeId) false true xHQ) xHO) fun (n,(a,(m,(b,(_,_))))) (c,_)=>((R n a m b c).isSome,(AV.tuple [],([⟨0,2,124,((R n a m b c).getD []),false,true⟩]:List Box)))
def xaQ (R:Nat->Int->Int->Int->LA->Option (LA)):Env:=(xoI.E.withM 145 (xeQ R)).fn 220 1 (lsOf [124]) (xHp [(3,xa5.lp),(9,xbk.lp),(15,xbW.lp),(21,xcP.lp),(33,xeH.lp)])
def xeG (R:Nat->Int->Int->Int->LA->Option (LA)):Prop:=OmOk P0 xHL 145 (xeQ R)
theorem xmV (R:Nat->Int->Int->Int->LA->Option (LA)) (a:xeG R):xG3 P0 (xHL.at 1) (xaQ R):=(xoI.ok.withM a).fn
theorem xkV (R:Nat->Int->Int->Int->LA->Option (LA)):LoOk P0 (xHL.at (xaQ R).pin) (xaQ R) (Tryz.f145.body.getD .skip):=xlA (ls:=[xG7 Tryz.f145 0,xG7 Tryz.f145 1,xG7 Tryz.f145 2,xG7 Tryz.f145 3,xG7 Tryz.f145 4]) (by kernel_rfl) (fun l b lp a=>by
 simp only [zC,List.not_mem_nil,or_false] at b;rcases b with rfl|rfl|rfl|rfl|rfl
 . rw [show (xaQ R).lp (xHh (xG7 Tryz.f145 0))=some xa5.lp by kernel_rfl] at a
   simp only [z6] at a;subst a;exact xa5.ok
 . rw [show (xaQ R).lp (xHh (xG7 Tryz.f145 1))=some xbk.lp by kernel_rfl] at a
   simp only [z6] at a;subst a;exact xbk.ok
 . rw [show (xaQ R).lp (xHh (xG7 Tryz.f145 2))=some xbW.lp by kernel_rfl] at a
   simp only [z6] at a;subst a;exact xbW.ok
 . rw [show (xaQ R).lp (xHh (xG7 Tryz.f145 3))=some xcP.lp by kernel_rfl] at a
   simp only [z6] at a;subst a;exact xcP.ok
 . rw [show (xaQ R).lp (xHh (xG7 Tryz.f145 4))=some xeH.lp by kernel_rfl] at a
   simp only [z6] at a;subst a;exact xeH.ok)
def xaa (a b:Int):=i64.wrap ((u64.wrap (i64.wrap (a+b))).fdiv 2)
def xaC (n:Nat) (a m b:Int) (c:LA):=Iter (xea n ((Iter (xbC n a) (m,b,c)).getD (0,[])).fst) (a,((Iter (xbC n a) (m,b,c)).getD (0,[])).snd)
def xaD (n:Nat) (a m:Int) (b:LA):=Iter (xeb n ((Iter (xbD n m) (a,m,b)).getD (0,[])).fst) (m,((Iter (xbD n m) (a,m,b)).getD (0,[])).snd)
def xaE (n:Nat) (a m b:Int) (c:LA):=Iter (xcp n a m b (xaa a b) (i64.wrap (xaa a b+m)) (i64.wrap (i64.wrap (xaa a b+m) - 1))) (i64.wrap (i64.wrap (xaa a b+m) - b),xaa a b,c)
def xaG (n:Nat) (a m b:Int) (c:LA):=Iter (xcp n a m b (xaa a b) (i64.wrap (xaa a b+m)) (i64.wrap (i64.wrap (xaa a b+m) - 1))) (a,m,c)
def xaB (n:Nat) (a m b:Int) (c:LA):=(xaE n a m b c).getD (0,[])
def xaF (n:Nat) (a m b:Int) (c:LA):=(xaG n a m b c).getD (0,[])
def xab (n:Nat) (a m b:Int) (c:LA):=(xaB n a m b c).fst
def xac (n:Nat) (a m b:Int) (c:LA):=(xaF n a m b c).fst
def xaf (n:Nat) (a m b:Int) (c:LA):=(xaB n a m b c).snd
def xag (n:Nat) (a m b:Int) (c:LA):=(xaF n a m b c).snd
def xad (n:Nat) (a m b:Int) (c:LA):=i64.wrap (i64.wrap (xaa a b+m) - xab n a m b c)
def xae (n:Nat) (a m b:Int) (c:LA):=i64.wrap (i64.wrap (xaa a b+m) - xac n a m b c)
def xaw (n:Nat) (a m b:Int) (c:LA):=decide (xab n a m b c<xaa a b)
def xay (n:Nat) (a m b:Int) (c:LA):=decide (a<xab n a m b c)
def xaz (n:Nat) (a m b:Int) (c:LA):=decide (xac n a m b c<xaa a b)
def xaA (n:Nat) (a m b:Int) (c:LA):=decide (a<xac n a m b c)
def xal (n:Nat) (a m b:Int) (c:LA):=decide (xaa a b<xad n a m b c)
def xam (n:Nat) (a m b:Int) (c:LA):=decide (xad n a m b c<b)
def xan (n:Nat) (a m b:Int) (c:LA):=decide (xaa a b<xae n a m b c)
def xao (n:Nat) (a m b:Int) (c:LA):=decide (xae n a m b c<b)
def xah (n:Nat) (a m b:Int) (c:LA):=(xbY n (xab n a m b c) m (xad n a m b c) (xaf n a m b c)).getD []
def xai (n:Nat) (a m b:Int) (c:LA):=(xbY n (xac n a m b c) m (xae n a m b c) (xag n a m b c)).getD []
def xaH (R:Nat->Int->Int->Int->LA->Option (LA)) (n:Nat) (a m b:Int) (c:LA):Option (LA):=R n (xaa a b) (xad n a m b c) b ((R n a (xab n a m b c) (xaa a b) (xah n a m b c)).getD [])
def xaI (R:Nat->Int->Int->Int->LA->Option (LA)) (n:Nat) (a m b:Int) (c:LA):Option (LA):=R n (xaa a b) (xae n a m b c) b ((R n a (xac n a m b c) (xaa a b) (xai n a m b c)).getD [])
def xar {T:Type} (R:Nat->Int->Int->Int->LA->Option (LA)) (n:Nat) (a m b:Int) (c:LA) (δ:T) (κ:LA->T):T:=br (xal n a m b c) (br (xam n a m b c) (br ((R n (xaa a b) (xad n a m b c) b (xah n a m b c)).isSome) (κ ((R n (xaa a b) (xad n a m b c) b (xah n a m b c)).getD [])) δ) (κ (xah n a m b c))) (κ (xah n a m b c))
def xas {T:Type} (R:Nat->Int->Int->Int->LA->Option (LA)) (n:Nat) (a m b:Int) (c:LA) (δ:T) (κ:LA->T):T:=br (xan n a m b c) (br (xao n a m b c) (br ((R n (xaa a b) (xae n a m b c) b (xai n a m b c)).isSome) (κ ((R n (xaa a b) (xae n a m b c) b (xai n a m b c)).getD [])) δ) (κ (xai n a m b c))) (κ (xai n a m b c))
def xat {T:Type} (R:Nat->Int->Int->Int->LA->Option (LA)) (n:Nat) (a m b:Int) (c:LA) (δ:T) (κ:LA->T):T:=br (xal n a m b c) (br (xam n a m b c) (br ((R n (xaa a b) (xad n a m b c) b (xaf n a m b c)).isSome) (κ ((R n (xaa a b) (xad n a m b c) b (xaf n a m b c)).getD [])) δ) (κ (xaf n a m b c))) (κ (xaf n a m b c))
def xap {T:Type} (R:Nat->Int->Int->Int->LA->Option (LA)) (n:Nat) (a m b:Int) (c:LA) (δ:T) (κ:LA->T):T:=br (xay n a m b c) (br (xaw n a m b c) (br ((R n a (xab n a m b c) (xaa a b) (xaf n a m b c)).isSome) (br (xal n a m b c) (br (xam n a m b c) (br ((R n (xaa a b) (xad n a m b c) b ((R n a (xab n a m b c) (xaa a b) (xaf n a m b c)).getD [])).isSome) (κ ((R n (xaa a b) (xad n a m b c) b ((R n a (xab n a m b c) (xaa a b) (xaf n a m b c)).getD [])).getD [])) δ) (κ ((R n a (xab n a m b c) (xaa a b) (xaf n a m b c)).getD []))) (κ ((R n a (xab n a m b c) (xaa a b) (xaf n a m b c)).getD []))) δ) (xat R n a m b c δ κ)) (xat R n a m b c δ κ)
def xau {T:Type} (R:Nat->Int->Int->Int->LA->Option (LA)) (n:Nat) (a m b:Int) (c:LA) (δ:T) (κ:LA->T):T:=br (xan n a m b c) (br (xao n a m b c) (br ((R n (xaa a b) (xae n a m b c) b (xag n a m b c)).isSome) (κ ((R n (xaa a b) (xae n a m b c) b (xag n a m b c)).getD [])) δ) (κ (xag n a m b c))) (κ (xag n a m b c))
def xaq {T:Type} (R:Nat->Int->Int->Int->LA->Option (LA)) (n:Nat) (a m b:Int) (c:LA) (δ:T) (κ:LA->T):T:=br (xaA n a m b c) (br (xaz n a m b c) (br ((R n a (xac n a m b c) (xaa a b) (xag n a m b c)).isSome) (br (xan n a m b c) (br (xao n a m b c) (br ((R n (xaa a b) (xae n a m b c) b ((R n a (xac n a m b c) (xaa a b) (xag n a m b c)).getD [])).isSome) (κ ((R n (xaa a b) (xae n a m b c) b ((R n a (xac n a m b c) (xaa a b) (xag n a m b c)).getD [])).getD [])) δ) (κ ((R n a (xac n a m b c) (xaa a b) (xag n a m b c)).getD []))) (κ ((R n a (xac n a m b c) (xaa a b) (xag n a m b c)).getD []))) δ) (xau R n a m b c δ κ)) (xau R n a m b c δ κ)
def xaJ {T:Type} (R:Nat->Int->Int->Int->LA->Option (LA)) (n:Nat) (a m b:Int) (c:LA) (δ:T) (κ:LA->T):T:=br (i64.wrap (m - a)==1) (br ((Iter (xbC n a) (m,b,c)).isSome) (br ((xaC n a m b c).isSome) (κ ((xaC n a m b c).getD [])) δ) δ) (br (i64.wrap (b - m)==1) (br ((Iter (xbD n m) (a,m,c)).isSome) (br ((xaD n a m c).isSome) (κ ((xaD n a m c).getD [])) δ) δ) (br (decide (m>xaa a b)) (br ((xaE n a m b c).isSome) (br (decide (xab n a m b c<m)) (br (decide (m<xad n a m b c)) (br ((xbY n (xab n a m b c) m (xad n a m b c) (xaf n a m b c)).isSome) (br (xay n a m b c) (br (xaw n a m b c) (br ((R n a (xab n a m b c) (xaa a b) (xah n a m b c)).isSome) (br (xal n a m b c) (br (xam n a m b c) (br ((xaH R n a m b c).isSome) (κ ((xaH R n a m b c).getD [])) δ) (κ ((R n a (xab n a m b c) (xaa a b) (xah n a m b c)).getD []))) (κ ((R n a (xab n a m b c) (xaa a b) (xah n a m b c)).getD []))) δ) (xar R n a m b c δ κ)) (xar R n a m b c δ κ)) δ) (xap R n a m b c δ κ)) (xap R n a m b c δ κ)) δ) (br ((xaG n a m b c).isSome) (br (decide (xac n a m b c<m)) (br (decide (m<xae n a m b c)) (br ((xbY n (xac n a m b c) m (xae n a m b c) (xag n a m b c)).isSome) (br (xaA n a m b c) (br (xaz n a m b c) (br ((R n a (xac n a m b c) (xaa a b) (xai n a m b c)).isSome) (br (xan n a m b c) (br (xao n a m b c) (br ((xaI R n a m b c).isSome) (κ ((xaI R n a m b c).getD [])) δ) (κ ((R n a (xac n a m b c) (xaa a b) (xai n a m b c)).getD []))) (κ ((R n a (xac n a m b c) (xaa a b) (xai n a m b c)).getD []))) δ) (xas R n a m b c δ κ)) (xas R n a m b c δ κ)) δ) (xaq R n a m b c δ κ)) (xaq R n a m b c δ κ)) δ)))
def xav (R:Nat->Int->Int->Int->LA->Option (LA)) (n:Nat) (a m b:Int) (c:LA):=xaJ R n a m b c none some
theorem xoB (R:Nat->Int->Int->Int->LA->Option (LA)) (n:Nat) (a m b:Int) (xs:LA):Enc (fun (p:LA)=>(((AV.tuple [],([⟨0,2,124,p,false,true⟩]:List Box))):(AV×List Box))) (xav R n a m b xs) (XFM P0 (xaQ R) Tryz.f145 (Tryz.f145.body.getD .skip) [AV.osl (0:Id) 0 0 n,AV.int .i64 a,AV.int .i64 m,AV.int .i64 b,AV.func (111:FuncId) []] [{ ver:=0,sz:=2,ty:=(124:TypeId),xs:=xs,frz:=false,pm:=true }]):=by
 have h:XFM P0 (xaQ R) Tryz.f145 (Tryz.f145.body.getD .skip) [AV.osl (0:Id) 0 0 n,AV.int .i64 a,AV.int .i64 m,AV.int .i64 b,AV.func (111:FuncId) []] [{ ver:=0,sz:=2,ty:=(124:TypeId),xs:=xs,frz:=false,pm:=true }]=xaJ R n a m b xs none (fun (p:LA)=>some (((AV.tuple [],([⟨0,2,124,p,false,true⟩]:List Box))):(AV×List Box))):=by kernel_rfl
 rw [h];unfold xav xaJ xap xaq xar xas xat xau;repeat' (first|refine Enc.br ?_ ?_|exact Enc.none|exact Enc.some rfl)
def xoA (R:Nat->Int->Int->Int->LA->Option (LA)):LA->List Box->Option (Bool×AV×List Box):=omOf (xHN (sEq (xHY 0 0 0)) (xHN (sEq (pInt .i64)) (xHN (sEq (pInt .i64)) (xHN (sEq (pInt .i64)) (xHN (sEq (xHq (111:FuncId) xHO)) xHP))))) (xHM (xH0 0 2 (124:TypeId) false true xHQ) xHO) fun (n,(a,(m,(b,(_,_))))) (c,_)=>((xav R n a m b c).isSome,((AV.tuple [],([⟨0,2,124,((xav R n a m b c).getD []),false,true⟩]:List Box))))
theorem xoz (R:Nat->Int->Int->Int->LA->Option (LA)) (f:xeG R):OmOk P0 xHL 145 (xoA R):=xlT fun g h k j i=>by
 obtain ⟨n,⟨a,⟨m,⟨b,⟨_,_⟩⟩⟩⟩⟩:=g;obtain ⟨l,_⟩:=h;obtain ⟨c,e⟩:=Prod.mk.inj i;refine xg1 (p:=(xaQ R).pin) (xiH xHc (xHd P0 _) rfl (xmV R f) rfl Tryz.func145 rfl (by kernel_rfl) (xkV R) ((xoB R _ _ _ _ _ _ (xcy (d:=[]) c)).trans ?_))
 exact congrArg some e
def xaO:Nat->Nat->Int->Int->Int->LA->Option (LA)
 | 0=>fun _ _ _ _ _=>none
 | fu_+1=>fun n a m b c=>xav (xaO fu_) n a m b c
theorem xhG:∀ n,xeG (xaO n)
 | 0=>xlT fun _ _ _ _ h=>absurd (Prod.mk.inj h).1 Bool.false_ne_true
 | fu_+1=>fun a H r b h=>xoz (xaO fu_) (xhG fu_) a H r b h
def xC8:Env:=xoI.E.withM 145 (xeQ (xaO 1000))
theorem xCa:xG3 P0 xHL xC8:=xoI.ok.withM (xhG _)
def xqr:EO:=EO.mk xC8 xCa
def xiL {T:Type} (d:Nat) (n e a b:Int) (c:LA) (δ:T) (κl:(Int×Int×LA)->T) (κr:(Int×LA)->T):T:=br (decide (b<=n)) (br ((xbr d a b c).isSome) (κl (b,i64.wrap (b+e),(xbr d a b c).getD [])) δ) (κr (a,c))
def xbU (e:Nat) (n c:Int):StT (Int×Int×LA) (Int×LA):=fun (a,b,d)=>xiL e n c a b d none inL inR
def xdu:=xqr.l 63 1 [124] [] Tryz.f127 0 lk0 [0,1,2,6,7,8] [0,1,2,6,7] [] (q6 (xHY 0 0 0) qI (xHq 111 xHO) qI qI qI) (q1 (qB 0 2 124 xHQ)) (fun (d,n,_,c,a,b,_) (e,_)=>(xbU d n c,(a,b,e),fun p=>(.leaf (.exit 0) [AV.osl 0 0 0 d,AV.int .i64 n,AV.func 111 [],AV.int .i64 c,AV.int .i64 p.1] [bF 0 2 124 p.2]))) (0,[]) fun (d,n,_,c,_,_,_) _ (a,b,e)=>(((d,n,(),c,a,b,()),(e,())),xiL d n c a b e none)
def xiM {T:Type} (e:Nat) (n c a b:Int) (d:LA) (δ:T) (κl:(Int×Int×LA)->T) (κr:(Int×LA)->T):T:=br (decide (b<=n)) (br ((xaO 1000 e a (i64.wrap (a+c)) b d).isSome) (κl (b,i64.wrap (b+i64.wrap (2*c)),(xaO 1000 e a (i64.wrap (a+c)) b d).getD [])) δ) (κr (a,d))
def xcJ (e:Nat) (n c:Int):StT (Int×Int×LA) (Int×LA):=fun (a,b,d)=>xiM e n c a b d none inL inR
def xdC:=xqr.l 63 1 [124] [(2,xdu.lp)] Tryz.f127 2 lk0 [0,1,2,6,7,8] [0,1,2,6,7] [] (q6 (xHY 0 0 0) qI (xHq 111 xHO) qI qI qI) (q1 (qB 0 2 124 xHQ)) (fun (d,n,_,c,a,b,_) (e,_)=>(xcJ d n c,(a,b,e),fun p=>(.leaf (.exit 4) [AV.osl 0 0 0 d,AV.int .i64 n,AV.func 111 [],AV.int .i64 c,AV.int .i64 p.1] [bF 0 2 124 p.2]))) (0,[]) fun (d,n,_,c,_,_,_) _ (a,b,e)=>(((d,n,(),c,a,b,()),(e,())),xiM d n c a b e none)
def xdB (c:Nat) (n a:Int) (b:LA):=Iter (xcJ c n a) (0,i64.wrap (2*a),b)
def xdA (c:Nat) (n a:Int) (b:LA):=(xdB c n a b).getD (0,[])
def xdy (c:Nat) (n a:Int) (b:LA):=(xdA c n a b).fst
def xdz (c:Nat) (n a:Int) (b:LA):=(xdA c n a b).snd
def xdw (c:Nat) (n a:Int) (b:LA):=i64.wrap (xdy c n a b+a)
def xdv (b:Nat) (n a:Int) (c:LA):=xaO 1000 b (xdy b n a c) (xdw b n a c) n (xdz b n a c)
def xch {T:Type} (c:Nat) (n a:Int) (b:LA) (δ:T) (κl:(Int×LA)->T) (κr:(LA)->T):T:=br (decide (a<n)) (br ((xdB c n a b).isSome) (br (decide (xdw c n a b<n)) (br ((xdv c n a b).isSome) (κl (i64.wrap (a*2),(xdv c n a b).getD [])) δ) (κl (i64.wrap (a*2),xdz c n a b))) δ) (κr (b))
def xa4 (c:Nat) (n:Int):StT (Int×LA) (LA):=fun (a,b)=>xch c n a b none inL inR
def xil:=xqr.l 63 1 [124] [(2,xdu.lp),(9,xdC.lp)] Tryz.f127 1 (lk1 xdC.ok) [0,1,2,6] [] [] (q4 (xHY 0 0 0) qI (xHq 111 xHO) qI) (q1 (qB 0 2 124 xHQ)) (fun (c,n,_,a,_) (b,_)=>(xa4 c n,(a,b),fun p=>(.leaf (.exit 2) [] [bF 0 2 124 p]))) [] fun (c,n,_,_,_) _ (a,b)=>(((c,n,(),a,()),(b,())),xch c n a b none)
def xgj (n:Nat) (k:Int) (a:LA):=(Iter (xbU n k 20) (0,20,a)).getD (0,[])
def xgi (n:Nat) (k:Int) (a:LA):=xbr n (xgj n k a).fst k (xgj n k a).snd
def xgh (n:Nat) (k:Int) (a:LA):=Iter (xa4 n k) (20,(xgi n k a).getD [])
def xgD {T:Type} (n:Nat) (k:Int) (a:LA) (δ:T) (κ:LA->T):T:=br ((Iter (xbU n k 20) (0,20,a)).isSome) (br ((xgi n k a).isSome) (br ((xgh n k a).isSome) (κ ((xgh n k a).getD [])) δ) δ) δ
def xfi (n:Nat) (k:Int) (a:LA):=xgD n k a none some
def xFz:EO:=xqr.fM Tryz.func127 63 1 [124] [(2,xdu.lp),(9,xdC.lp),(7,xil.lp)] (lks (lkC xdu.ok (lkC xil.ok (lkC xdC.ok lkN)))) (u3 (sEq (xHY 0 0 0)) uI (sEq (xHq (111:FuncId) xHO))) (q1 (qB 0 2 124 xHQ)) (fun (n,k,_,_) (a,_) _=>xgD n k a) (fun _ _ p=>(AV.tuple [],([bF 0 2 124 p]:List Box))) []
def xgb {T:Type} (n:Nat) (a:LA) (δ:T) (κ:LA->T):T:=br ((xfi n (↑n:Int) a).isSome) (κ ((xfi n (↑n:Int) a).getD [])) δ
def xgR (n:Nat) (a:LA):=xgb n a none some
def xC9:EO:=xFz.fM Tryz.func110 9 1 [124] [] lk0 (u2 (sEq (xHY 0 0 0)) (sEq (xHq (111:FuncId) xHO))) (q1 (qB 0 2 124 xHQ)) (fun (n,_,_) (a,_) _=>xgb n a) (fun _ _ p=>(AV.tuple [],([bF 0 2 124 p]:List Box))) []
def xev (b:LA) (c:Int) (a:LA):=a++[AV.agg [AV.list 3 (gC b c 0).toList,AV.list 2 []]]
def xbO (a:Nat):Nat:=0+(↑a:Int).toNat
def xcj (a:LA) (b:Int):=(xjz (gC a b 0).toList).getD []
def xgF (d:LA) (f:Int) (b:Nat) (e:Int) (c a:LA):=decide (xbO b<(xev d e a).length)
def xgG (d:LA) (e:Int) (a:Nat) (f:Int) (b c:LA):=decide ((↑a:Int)<(↑(a+1):Int))
def xbd (c:LA) (b:Nat) (d:Int) (a:LA):=((xev c d a).getD (xbO b) .top).cells
def xf5 (a:LA) (b:Int):=decide ((xcj a b).length<=4611686018427387904)
def xew (b:LA) (c:Int) (a:LA):=(xHl (AV.int .i64 0) a (xcj b c)).toInt
def xgH (c:LA) (b:Nat) (d:Int) (a:LA):=decide (0<=xew c d a)&&decide (xew c d a<(↑b:Int))
def xaX (c:LA) (b:Nat) (d:Int) (a:LA):=((xbd c b d a).getD 1 .top).toList.length
def xaR (b:LA) (c:Int) (a:LA):Nat:=0+(xew b c a).toNat
def xf4 (a:LA) (d:Nat) (b:Int) (c:LA):=((xbd a d b c).getD 1 .top).toList++[AV.agg [AV.int .i64 (gC a b 1).toInt,AV.int .i64 (gC a b 2).toInt]]
def xeV (c:LA) (b:Nat) (d:Int) (a:LA):=(xev c d a).set (xbO b) (AV.agg (List.take 1 (xbd c b d a)++[AV.int .i64 (↑(xaX c b d a):Int)]++List.drop 2 (xbd c b d a)))
def xgI (c:LA) (d:Int) (a b:LA):=decide (xaR c d a<b.length)
def xaY (c:LA) (d:Int) (a b:LA):=((b.getD (xaR c d a) .top).cells.getD 1 .top).toList.length
def xf3 (b:LA) (c:Int) (a d:LA):=((d.getD (xaR b c a) .top).cells.getD 1 .top).toList++[AV.agg [AV.int .i64 (gC b c 1).toInt,AV.int .i64 (gC b c 2).toInt]]
def xdN (c:LA) (a:Nat) (d:Int) (b:LA):=((xeV c a d b).getD (xbO a) .top).cells
def xeW (c:LA) (d:Int) (a b:LA):=b.set (xaR c d a) (AV.agg (List.take 1 (b.getD (xaR c d a) .top).cells++[AV.int .i64 (↑(xaY c d a b):Int)]++List.drop 2 (b.getD (xaR c d a) .top).cells))
def xdO (c:LA) (d:Int) (a b:LA):=((xeW c d a b).getD (xaR c d a) .top).cells
def xef {T:Type} (d:LA) (f:Int) (e:Nat) (c:Int) (b a:LA) (δ:T) (κl:(Nat×Int×LA×LA)->T) (κr:(Nat×LA)->T):T:=br (decide (c<f)) (br (ixI d c) (br (ixT d c 3 [Sh.list 3,Sh.int .i64,Sh.int .i64] 0) (br (!xgw (gC d c 1).toInt (gC d c 2).toInt) (κl (e,i64.wrap (c+1),b,a)) (br ((xjz (gC d c 0).toList).isSome) (br (xf5 d c&&xG1 (Sh.int .i64) (xHl (AV.int .i64 0) b (xcj d c))) (br (!xHy b (xcj d c)) (br (decide (b.length<4611686018427387904)&&xf5 d c) (br (rmB e a 1 48) (br (xgG d f e c b a) (br (xgF d f e c b a&&(xHJ 2 ((xbd d e c a).getD 1 .top)&&(xbd d e c a).length==2)) (br (xgF d f e c b a&&(xHJ 2 ((xbd d e c a).getD 1 .top)&&((xbd d e c a).length==2&&(2*xaX d e c a==2*xaX d e c a&&(xaX d e c a==xaX d e c a&&(xaX d e c a==xaX d e c a&&(decide ((xaX d e c a+1)*16<=140737488355328)&&decide (xaX d e c a+1<=4611686018427387904)))))))) (br (xgG d f e c b a) (br (decide (xbO e<(xeV d e c a).length)&&((xdN d e c a).length==2&&(xaX d e c a+1==(xf4 d e c a).length&&xH5 ((xdN d e c a).getD 1 .top) (xaX d e c a+1)))) (κl (e+1,i64.wrap (c+1),xHj b (xcj d c) (AV.int .i64 (↑e:Int)),(xeV d e c a).set (xbO e) (AV.agg (List.take 1 (xdN d e c a)++[AV.list 2 (xf4 d e c a)]++List.drop 2 (xdN d e c a))))) δ) δ) δ) δ) δ) δ) δ) (br (xgH d e c b) (br (xgI d c b a&&(xHJ 2 ((a.getD (xaR d c b) .top).cells.getD 1 .top)&&(a.getD (xaR d c b) .top).cells.length==2)) (br (xgI d c b a&&(xHJ 2 ((a.getD (xaR d c b) .top).cells.getD 1 .top)&&((a.getD (xaR d c b) .top).cells.length==2&&(2*xaY d c b a==2*xaY d c b a&&(xaY d c b a==xaY d c b a&&(xaY d c b a==xaY d c b a&&(decide ((xaY d c b a+1)*16<=140737488355328)&&decide (xaY d c b a+1<=4611686018427387904)))))))) (br (xgH d e c b) (br (decide (xaR d c b<(xeW d c b a).length)&&((xdO d c b a).length==2&&(xaY d c b a+1==(xf3 d c b a).length&&xH5 ((xdO d c b a).getD 1 .top) (xaY d c b a+1)))) (κl (e,i64.wrap (c+1),b,(xeW d c b a).set (xaR d c b) (AV.agg (List.take 1 (xdO d c b a)++[AV.list 2 (xf3 d c b a)]++List.drop 2 (xdO d c b a))))) δ) δ) δ) δ) δ)) δ) δ)) δ) δ) (κr (e,a))
def xbF (d:LA) (e:Int):StT (Nat×Int×LA×LA) (Nat×LA):=fun (c,f,a,b)=>xef d e c f a b none inL inR
def xna:=xC9.l 60 0 [] [] Tryz.f88 0 lk0 [3,4,11,12,13] [4] [(4,2,240654483580)] (q5 (xHZ 0 0 0 0) (xHY 1 0 0) (qL 3) qI qI) (q2 (qB 0 2 1208925819615247717105664 xHQ) (qB 0 2 240654483580 xHQ)) (fun (_,c,d,e,f,_) (a,b,_)=>(xbF d e,(c,f,a,b),fun p=>(.leaf (.exit 0) [AV.osl 0 0 0 p.1] [bF 0 2 240654483580 p.2]))) (0,[]) fun (_,_,d,e,_,_) _ (c,f,a,b)=>((((),c,d,e,f,()),(a,b,())),xef d e c f a b none)
def xln (l:LA):=Iter (xbF l (↑l.length:Int)) (0,0,[],[])
def xlm (l:LA):=(xln l).getD (0,[])
def xiO (l:LA):=(xlm l).fst
def xll (l:LA):=(xlm l).snd
def xlk (l:LA):=xgR (xiO l) (xll l)
def xlj (l:LA):=(xlk l).getD []
def xmd {T:Type} (l:LA) (δ:T) (κ:LA->T):T:=br ((xln l).isSome) (br (xHz 2 1 (xll l)) (br ((xlk l).isSome) (br (decide (0+xiO l<=(xlj l).length)&&true) (κ (List.take (xiO l) (List.drop 0 (xlj l)))) δ) δ) δ) δ
def xi2 (l:LA):=xmd l none some
def xDa:EO:=xC9.f Tryz.func88 60 0 [] [(4,xna.lp)] (lk1 xna.ok) (u1 (uL 3)) (fun (l,_) _=>xmd l) (fun _ p=>AV.list 2 p) []
end Go.Sim.M
end
