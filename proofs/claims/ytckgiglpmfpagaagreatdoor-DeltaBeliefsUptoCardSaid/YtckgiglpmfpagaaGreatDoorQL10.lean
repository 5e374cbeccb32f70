/- Part 10 of the proof of the law. -/
import Derived.Test.YtckgiglpmfpagaaGreatDoorQL9
import Derived.WalkKit
import Derived.BigCall
import Derived.Lib.Strings
import Derived.Lib.Slices
import Derived.Lib.Walk
import Derived.Lib.Builder
import Derived.Lib.UnsafeStr
import Derived.Laws.Externs
import Derived.Laws.IdiomCopy
import Derived.Laws.BitsLemmas
import Derived.RegionTactic
set_option linter.unusedVariables false
set_option linter.unusedSimpArgs false
set_option linter.unnecessarySimpa false
noncomputable section
namespace Go.Proofs
open Go.RowKit Go.Lib
theorem Tryz.lies_builder (n:Nat) (hn:1<=n):liesAt Tryz.prog Tryz.prog.depth 157 n 0 157 1=true:=by
 have hc:Tryz.prog.cellsOf 157=2:=by kernel_rfl
 have hd:Tryz.prog.depth=(2*(Tryz.prog.types.size+Made.depth)+1)+1:=rfl;generalize Tryz.prog=P at *;rw [hd];simp only [liesAt,Bool.or_eq_true];left;rw [hd];simp [rowAt,hc,hn,sameLayout]
set_option maxHeartbeats 2000000 in
set_option maxRecDepth 100000 in
theorem Tryz.copyCheck_used (b:Nat) (w:World) (h0:w.cell? ⟨b,0,none⟩=some (.pointer (some ⟨b,0,none⟩))) :
  Calls Tryz.prog 142 #[.pointer (some ⟨b,0,none⟩)] w fun e w'=>e=.returned (.tuple #[])/\w'=w:=by
 have hsz:(Tryz.prog.info? 157).map (·.size)=some 2:=by kernel_rfl
 obtain ⟨j,hj,_⟩:=Option.map_eq_some_iff.1 hsz;have tp:Tryz.prog.underlying 154=some (.pointer 157):=by kernel_rfl
 go_enter Tryz.func142,Tryz.ntmps142
 go_wp2
 rw [Lib.run_neq_ptr_same w _ tp hj]
 go_wp2
 go_end0
 exact ⟨rfl,rfl⟩
set_option maxHeartbeats 2000000 in
set_option maxRecDepth 100000 in
theorem Tryz.copyCheck_fresh (b n:Nat) (hn:1<=n) (w:World) (h0:w.cell? ⟨b,0,none⟩=some (.pointer none)) (J:w.shape? b=some (157,n*2)) (Q:w.frozen? ⟨b,0,none⟩=false) :
  Calls Tryz.prog 142 #[.pointer (some ⟨b,0,none⟩)] w fun e w'=>e=.returned (.tuple #[])/\w'=w.setCell ⟨b,0,none⟩ (.pointer (some ⟨b,0,none⟩)):=by
 have hsz:(Tryz.prog.info? 157).map (·.size)=some 2:=by kernel_rfl
 obtain ⟨j,hj,O⟩:=Option.map_eq_some_iff.1 hsz;have hc:Tryz.prog.cellsOf 157=2:=by kernel_rfl
 have tp:Tryz.prog.underlying 154=some (.pointer 157):=by kernel_rfl
 have tu:Tryz.prog.underlying 195=some .unsafePointer:=by kernel_rfl
 have q:liesAt Tryz.prog Tryz.prog.depth 157 (n*2 / Tryz.prog.cellsOf 157) 0 157 1=true:=by
  rw [hc,Nat.mul_div_cancel _ (by decide)];exact Tryz.lies_builder n hn
 have c1:=Lib.run_to_unsafe w ⟨b,0,none⟩ tp tu hj (by rw [O];decide) J (show 0<n*2 by omega)
 have c2:=Lib.run_from_unsafe w ⟨b,0,none⟩ tu tp hj J q;clear q
 go_enter Tryz.func142,Tryz.ntmps142
 go_wp2
 rw [run_callFunc_extern Tryz.func161 (by kernel_rfl) (by kernel_rfl) (by kernel_rfl) (e:=Extern.AbiNoEscape.same) (by kernel_rfl)]
 rw [Lib.run_noEscape];simp only [Result.andThen];rw [Oper.upon_value]
 go_wp2
 go_end0
 exact ⟨rfl,rfl⟩
set_option maxHeartbeats 2000000 in
set_option maxRecDepth 100000 in
theorem Tryz.builder_string (b g cap:Nat) (l:List UInt8) (cur:Array Value) (w:World) (hb:w.cell? ⟨b,1,none⟩=some (.slice (some ⟨g,0,none⟩) l.length cap))
  (hg:w.heap[g]?=some (.cells cur 5 (0,0))) (q:∀ j x,l[j]?=some x->w.cell? ((⟨g,0,none⟩:Addr).add j)=some (.int .u8 x.toNat)) (U:l.length<=cur.size) (hcap:cap≠0) (h0:l≠[]) (J:l.length<=9223372036854775807) :
  Calls Tryz.prog 126 #[.pointer (some ⟨b,0,none⟩)] w fun e w'=>e=.returned (.string ⟨l.toArray⟩)/\w'=w.drew.freeze ⟨g,0,none⟩ l.length:=by
 have c1:w.drew.cell? ⟨b,1,none⟩=some (.slice (some ⟨g,0,none⟩) l.length cap):=hb;have O:Tryz.prog.underlying 179=some (.pointer 5):=by kernel_rfl
 have Q:Tryz.prog.cellsOf 5=1:=by kernel_rfl
 have V:(Builtin.unsafeSliceData_ #[155] 179 #[.slice (some ⟨g,0,none⟩) l.length cap]).run Tryz.prog w.drew=.ok (.pointer (some ⟨g,0,none⟩)) w.drew :=
  Lib.run_unsafeSliceData_row _ _ _ _ _ _ hcap
 have Y:(Builtin.unsafeString_ #[179,3] 9 #[.pointer (some ⟨g,0,none⟩),.int .i64 l.length]).run Tryz.prog w.drew=.ok (.string ⟨l.toArray⟩) (w.drew.freeze ⟨g,0,none⟩ l.length) :=
  Lib.run_unsafeString_row w.drew 179 3 9 5 O Q g cur.size (by have hg':w.drew.heap[g]?=some (.cells cur 5 (0,0)):=hg;simp [World.shape?,hg']) l h0 U J q
 clear q
 go_enter Tryz.func126,Tryz.ntmps126
 go_wp2
 go_region
 all_goals (go_wp2;go_ret;exact ⟨rfl,rfl⟩)
set_option maxHeartbeats 2000000 in
set_option maxRecDepth 100000 in
theorem Tryz.builder_string_nil (b:Nat) (w:World) (hb:w.cell? ⟨b,1,none⟩=some (.slice none 0 0)) :
  Calls Tryz.prog 126 #[.pointer (some ⟨b,0,none⟩)] w fun e w'=>e=.returned (.string ⟨#[]⟩)/\w'=w.drew:=by
 have c1:w.drew.cell? ⟨b,1,none⟩=some (.slice none 0 0):=hb;have q:(Builtin.unsafeSliceData_ #[155] 179 #[.slice none 0 0]).run Tryz.prog w.drew=.ok (.pointer none) w.drew:=rfl;have J:=Lib.run_unsafeString_none (P:=Tryz.prog) w.drew 179 3 9 none
 go_enter Tryz.func126,Tryz.ntmps126
 go_wp2
 go_region
 all_goals (go_wp2;go_ret;exact ⟨rfl,rfl⟩)
end Go.Proofs
end
noncomputable section
namespace Go.Sim
open Go.RowKit Go.Proofs
def M.isByte:AV->Bool
 | .int .u8 n=>decide (0<=n)&&decide (n<256)
 | _=>false
def M.isBytes (xs:List AV):Bool:=xs.all M.isByte
def M.strOf (xs:List AV):List UInt8:=xs.map fun x=>UInt8.ofNat x.toInt.toNat
theorem xzB (s:List UInt8):M.strOf (M.byteAVs s)=s:=by
 unfold M.strOf M.byteAVs;rw [List.map_map]
 conv=>rhs;rw [<-List.map_id s]
 exact List.map_congr_left fun u _=>by simp [AV.toInt]
theorem xwd (s:List UInt8):M.isBytes (M.byteAVs s)=true:=by
 unfold M.isBytes M.byteAVs;rw [zI];intro x hx;obtain ⟨u,_,rfl⟩:=zK.1 hx;have:=u.toNat_lt;simp only [M.isByte,zf,zl];omega
theorem xsg (s t:List UInt8):M.byteAVs (s++t)=M.byteAVs s++M.byteAVs t:=by simp [M.byteAVs]
theorem xll (s:List UInt8):(M.byteAVs s).length=s.length:=by simp [M.byteAVs]
theorem xDh {x:AV} (h:M.isByte x=true):∃ u:UInt8,x=.int .u8 u.toNat:=by
 unfold M.isByte at h;split at h
 . rename_i n;simp only [zf,zl] at h;refine ⟨UInt8.ofNat n.toNat,?_⟩;have:(UInt8.ofNat n.toNat).toNat=n.toNat:=by rw [UInt8.toNat_ofNat',Nat.mod_eq_of_lt (by omega)]
   rw [this];congr 1;omega
 . simp at h
theorem xAf (w:World) (g n k:Nat) (h:k≠g):(w.freeze ⟨g,0,none⟩ n).heap[k]?=w.heap[k]?:=by
 unfold World.freeze;split
 . rfl
 . simp [Array.getElem?_modify,Ne.symm h]
theorem xBs (w:World) (g n:Nat):(w.freeze ⟨g,0,none⟩ n).heap.size=w.heap.size:=by
 unfold World.freeze;split
 . rfl
 . simp
theorem xEF {w w':World} {A:Nat->Prop} {M:Id->Option MB} {B:Nat} {H:List Box} (hR:HR w A M B H) {id:Nat} {m:MB} {bx:Box} (J:0<m.cap) (hm:M (.b id)=some m) (hb:H[id]?=some bx) (Y:isC bx.ty=false) (aa:bx.frz=false) (U:BoxAt w A M B (.b id) m bx) (v:Nat) (hv:m.ver<v) (sz:Nat) (ty:TypeId) (V:isC ty=false)
  (hs:w'.heap.size=w.heap.size) (hw:∀ b,b≠m.b->w'.heap[b]?=w.heap[b]?) :
  HR w' A (MSet M (.b id) ⟨m.b,v,sz,0,ty⟩) B (H.set id ⟨v,sz,ty,[],false,true⟩)/\Mv w A M w' A (MSet M (.b id) ⟨m.b,v,sz,0,ty⟩):=by
 have ab:A m.b:=(U.guard J).1 aa;have O:MExt M (MSet M (.b id) ⟨m.b,v,sz,0,ty⟩):=xoZ hm (.inr hv);have hw':∀ b,b<w.heap.size->¬ A b->w'.heap[b]?=w.heap[b]?:=fun b _ hA=>hw b fun e=>hA (e▸ab)
 have hc:∀ {p:Prop},0<(0:Nat)->p:=fun h=>absurd h (by omega)
 have q:∀ i m1,MSet M (.b id) ⟨m.b,v,sz,0,ty⟩ i=some m1->0<m1.cap->i≠.b id/\M i=some m1:=fun i m1 h1 h0=>by
  by_cases hi:i=.b id
  . subst hi;simp [MSet] at h1;subst h1;exact absurd h0 (by simp)
  . exact ⟨hi,by simpa [MSet,hi] using h1⟩
 refine ⟨⟨fun i m1 h1=>?_,fun i i' m1 m2 h1 h2 c1 c2 he=>hR.inj i i' m1 m2 (q i m1 h1 c1).2 (q i' m2 h2 c2).2 c1 c2 he,fun b hb=>by rw [hs];exact hR.lt b hb⟩,⟨by omega,hw',fun _ _ h=>h,fun _ _ h _=>h,O,⟨fun b _ hb=>hw b fun e=>hb (.b id) m hm J e.symm,fun i m1 h1 h0=>.inl ⟨i,m1,(q i m1 h1 h0).2,h0,rfl⟩⟩⟩⟩
 by_cases hi:i=.b id
 . subst hi;have:m1=⟨m.b,v,sz,0,ty⟩:=by simp [MSet] at h1;exact h1.symm
   subst this;exact ⟨⟨v,sz,ty,[],false,true⟩,by rw [xbY,zL (xdi hb)],rfl,rfl,xbn V,zQ _,zQ _,fun x hx=>by simp at hx,hc,hc,hc,hc⟩
 . have Q:M i=some m1:=by simpa [MSet,hi] using h1
   obtain ⟨Z,g1,g2⟩:=hR.box i m1 Q;exact ⟨Z,by rw [xcP hb Y V hi];exact g1,g2.mono (fun h0=>hw _ fun e=>hi (hR.inj i (.b id) m1 m Q hm h0 J e)) hw' (by omega) (fun _ _ h=>h) g2.guard O⟩
theorem xpp {w:World} {A:Nat->Prop} {M:Id->Option MB} {B:Nat} {H:List Box} (hR:HR w A M B H) {v:Value} {a x:AV} {ty:TypeId} {frz pm:Bool} (J:isC ty=false) (hv:Rel w A M v (.own (.b 0) 0 0 0)) (hb:H[0]?=some ⟨0,2,ty,[.agg [a,x]],frz,pm⟩) :
  ∃ m c,M (.b 0)=some m/\BoxAt w A M B (.b 0) m ⟨0,2,ty,[.agg [a,x]],frz,pm⟩/\1<=m.cap/\v=.pointer (some ⟨m.b,0,none⟩)/\w.heap[m.b]?=some (.cells c ty (0,0))/\c.size=m.cap*2/\m.sz=2 /\
   Rel w A (MP M pm) (c.getD 0 undef) a/\Rel w A (MP M pm) (c.getD 1 undef) x/\w.cell? ⟨m.b,0,none⟩=some (c.getD 0 undef)/\w.cell? ⟨m.b,1,none⟩=some (c.getD 1 undef):=by
 obtain ⟨m,hm,q,hp⟩:=xpH hR hv (xnH hb J);have hcap:1<=m.cap:=q.fits;have hsz:m.sz=2:=q.sz.symm;obtain ⟨c,h1,h2,h3⟩:=q.plainCells J (by omega)
 rw [hsz] at h2;have r0:=h3 0 0 (by simp) (by omega)
 have r1:=h3 0 1 (by simp) (by omega)
 have h1:w.heap[m.b]?=some (.cells c ty (0,0)):=h1;have e0:w.cell? ⟨m.b,0,none⟩=some (c.getD 0 undef):=by
  have:0<c.size:=by omega
  simp [World.cell?,h1,this]
 have e1:w.cell? ⟨m.b,1,none⟩=some (c.getD 1 undef):=by
  have:1<c.size:=by omega
  simp [World.cell?,h1,this]
 refine ⟨m,c,hm,q,hcap,by simpa using hp,h1,h2,hsz,by simpa [AV.cells] using r0,by simpa [AV.cells] using r1,e0,e1⟩
def xrM:List AV->List Box->Option (Bool×AV×List Box)
 | [.own (.b 0) 0 0 0],⟨0,2,ty,[.agg [.nilptr,x]],false,pm⟩::r=>match Nat.beq ty 157 with
  | true=>some (true,.tuple [],⟨0,2,ty,[.agg [.own (.b 0) 0 0 0,x]],false,false⟩::r)
  | false=>none
 | [.own (.b 0) 0 0 0],⟨0,2,ty,[.agg [.own (.b 0) 0 0 0,x]],false,pm⟩::r=>match Nat.beq ty 157 with
  | true=>some (true,.tuple [],⟨0,2,ty,[.agg [.own (.b 0) 0 0 0,x]],false,pm⟩::r)
  | false=>none
 | _,_=>none
theorem xBm:OmOk Tryz.prog xMf 142 xrM:=fun xs H r H' h=>by
 unfold xrM at h;split at h
 . rename_i ty x pm rest;split at h
   case h_2=>simp at h
   rename_i J;have J:=zg J;subst J;simp only [z6,zb,true_and] at h;obtain ⟨rfl,rfl⟩:=h;refine ⟨xgK Tryz.func142 rfl (by kernel_rfl),fun w0 w A M vs hI hB hR O=>?_⟩
   obtain ⟨v,rfl,hv⟩:=rc1 O;obtain ⟨m,c,hm,q,hcap,rfl,hh,Q,hsz,r0,r1,e0,e1⟩:=xpp hR (by rfl) hv rfl
   have hn:c.getD 0 undef=.pointer none:=by
    revert r0;generalize c.getD 0 undef=z;intro r0;cases r0;rfl
   rw [hn] at e0;refine (Tryz.copyCheck_fresh m.b m.cap hcap w e0 (by simp [World.shape?,hh,Q]) (Lib.frozen_of_heap hh 0)).mono ?_
   rintro e w' ⟨rfl,rfl⟩;rw [setCell_eq_setRow w m.b 0 c _ _ _ hh];have aa:x.one=true:=by
    have:=q.ok (.agg [.nilptr,x]) (by simp)
    simp only [AV.okElem,AV.cells,List.all_cons,zf] at this;exact this.2.2.1
   have U:(0:Nat)=m.ver:=q.ver;obtain ⟨g1,g2,g3,g4,gt,g5⟩:=xoE (m':=m) (bx':=⟨0,2,157,[.agg [.own (.b 0) 0 0 0,x]],false,false⟩) hR (by omega) hm rfl q rfl rfl rfl (c':=c.setIfInBounds 0 (.pointer (some ⟨m.b,0,none⟩))) rfl rfl rfl rfl (.inl rfl)
    U (by rw [hsz]) (by have:=q.ty;rw [xbn rfl] at this;exact this) rfl hcap (fun y hy=>by
     simp only [zv] at hy;subst hy;rw [hsz];simp [AV.okElem,AV.cells,aa,show (AV.own (.b 0) 0 0 0).one=true from rfl]) (by rw [hsz];simpa using Q) (fun i j hi hj=>by
     have Z:i=0:=by simpa using hi
     subst Z;rw [hsz] at hj |-;have Y:0<c.size:=by omega
     have ac:1<c.size:=by omega
     match j,hj with
     | 0,_ =>
      have:(c.setIfInBounds 0 (.pointer (some ⟨m.b,0,none⟩))).getD (0*2+0) undef=.pointer (some ⟨m.b,0,none⟩):=by simp [Y]
      rw [this];exact .own _ (.b 0) 0 0 0 m hm (by omega) rfl (fun _=>by rw [xl4 (q.nomap rfl)];simp)
     | 1,_ =>
      have:(c.setIfInBounds 0 (.pointer (some ⟨m.b,0,none⟩))).getD (0*2+1) undef=c.getD 1 undef:=by simp [Array.getElem?_setIfInBounds]
      rw [this];exact r1.unmp)
   exact ⟨_,A,_,rfl,hB.trans g4,fun _ _=>Iff.rfl,Ev.refl.step ⟨by simp [World.setRow],g3,fun _ _ h=>h,fun _ _ h _=>h,g2,gt⟩,by simpa using g1,.tuple #[] [] rfl (by simp)⟩
 . rename_i ty x pm rest;split at h
   case h_2=>simp at h
   rename_i J;have J:=zg J;subst J;simp only [z6,zb,true_and] at h;obtain ⟨rfl,rfl⟩:=h;refine ⟨xgK Tryz.func142 rfl (by kernel_rfl),fun w0 w A M vs hI hB hR O=>?_⟩
   obtain ⟨v,rfl,hv⟩:=rc1 O;obtain ⟨m,c,hm,q,hcap,rfl,hh,Q,hsz,r0,r1,e0,e1⟩:=xpp hR (by rfl) hv rfl
   obtain ⟨m',V,ab,hp⟩:=xpH hR r0.unmp (xnH (n:=0) (bx:=⟨0,2,157,[.agg [.own (.b 0) 0 0 0,x]],false,pm⟩) rfl rfl);rw [hm] at V;obtain rfl:=(z6 _ _).mp V;rw [hp] at e0;refine (Tryz.copyCheck_used m.b w (by simpa using e0)).mono ?_
   rintro e w' ⟨rfl,rfl⟩;exact ⟨_,A,M,rfl,hB,fun _ _=>Iff.rfl,Ev.refl,hR,.tuple #[] [] rfl (by simp)⟩
 . simp at h
def xmv:List AV->List Box->Option (Bool×AV×List Box)
 | [.own (.b 0) 0 0 0],[⟨0,2,ty,[.agg [a,.osl (.b 1) u 0 n]],false,pm⟩,⟨u',1,ty',bs,false,pm'⟩]=>match Nat.beq ty 157&&(Nat.beq ty' 5&&Nat.beq u u') with
  | true=>some ((decide (n=bs.length)&&M.isBytes bs)&&decide (bs.length≠0),.str (M.strOf bs),[⟨0,2,ty,[.agg [a,.osl (.b 1) u 0 n]],false,pm⟩,⟨u+1,1,ty',[],false,true⟩])
  | false=>none
 | [.own (.b 0) 0 0 0],⟨0,2,ty,[.agg [a,.nils]],false,pm⟩::r=>match Nat.beq ty 157 with
  | true=>some (true,.str [],⟨0,2,ty,[.agg [a,.nils]],false,pm⟩::r)
  | false=>none
 | _,_=>none
theorem xu9:OmOk Tryz.prog xMf 126 xmv:=fun xs H r H' h=>by
 unfold xmv at h;split at h
 . rename_i ty a u n pm u' al bs ac;split at h
   case h_2=>simp at h
   rename_i O;simp only [zf] at O;obtain ⟨h1,h2,h3⟩:=O;have h1:=zg h1;have h2:=zg h2;have h3:=zg h3;subst h1 h2 h3;simp only [z6,zb,zf,zl] at h;obtain ⟨⟨⟨rfl,ag⟩,hne⟩,rfl,rfl⟩:=h;refine ⟨xgK Tryz.func126 rfl (by kernel_rfl),fun w0 w A MM vs hI hB hR V=>?_⟩
   obtain ⟨v,rfl,hv⟩:=rc1 V;obtain ⟨m,c,hm,ab,hcap,rfl,hh,ai,hsz,r0,r1,e0,e1⟩:=xpp hR (by rfl) hv rfl
   obtain ⟨m1,a1,af,q,aj,ah,ae⟩:=xkW hR r1.unmp (xnH (n:=1) (bx:=⟨u,1,5,bs,false,ac⟩) rfl rfl);have J:0<m1.cap:=by have:=q.fits;simp only at this;omega
   have ha:=ae J;subst ha;obtain ⟨c1,k1,k2,k3⟩:=q.plainCells rfl J;have Q:m1.sz=1:=q.sz.symm;have ak:5=m1.ty:=by have:=q.ty;rw [xbn rfl] at this;exact this
   rw [ah] at e1;simp only [Nat.zero_mul,Nat.sub_zero] at e1;have hl:(M.strOf bs).length=bs.length:=by simp [M.strOf]
   have U:∀ j,j<bs.length->∃ uu:UInt8,bs.getD j .top=.int .u8 uu.toNat/\(M.strOf bs)[j]?=some uu/\w.cell? ⟨m1.b,j,none⟩=some (.int .u8 uu.toNat):=fun j hj=>by
    have ad:bs.getD j .top∈bs:=xa6 hj;obtain ⟨uu,hu⟩:=xDh (zI.1 ag _ ad);refine ⟨uu,hu,?_,?_⟩
    . have:bs[j]?=some (bs.getD j .top):=xsl hj;simp only [M.strOf,List.getElem?_map,this,hu,Option.map_some,AV.toInt,zN,UInt8.ofNat_toNat]
    . have hr:=k3 j 0 hj (by omega)
      rw [Q,hu] at hr;simp only [Nat.mul_one,Nat.add_zero,AV.cells,List.getD_cons_zero] at hr;have:=hr.int_inv;have Z:j<c1.size:=by have:=q.fits;simp only at this;rw [k2,Q];omega
      simp only [World.cell?,k1];have e2:c1.getD j undef=c1[j]:=by simp [Z]
      rw [e2] at this;simp [Z,this]
   refine (Tryz.builder_string m.b m1.b m1.cap (M.strOf bs) c1 w (by rw [hl];exact e1) k1 (fun j x hx=>by
    have hj:j<bs.length:=by
     rcases zJ j bs.length with h'|h'
     . exact h'
     . rw [zz (by omega)] at hx;simp at hx
    obtain ⟨uu,g1,g2,g3⟩:=U j hj;rw [g2] at hx;obtain rfl:=(z6 _ _).mp hx;by_cases Y:j=0
    . subst Y;simpa [Addr.add] using g3
    . simpa [Addr.add,Y] using g3) (by rw [hl,k2,Q];have:=q.fits;simp only at this;omega) (by omega) (fun e=>hne (by rw [<-hl,e];rfl)) (by rw [hl];have h1:=q.fits;have h2:=q.capm;simp only at h1;unfold maxLen at h2;omega)).mono ?_
   rintro e w' ⟨rfl,rfl⟩;rw [hl];have aa:=q.low J;obtain ⟨g1,g2⟩:=xEF hR J af rfl rfl rfl q (u+1) (by have:=q.ver;simp only at this;omega) 1 5 rfl (w':=w.drew.freeze ⟨m1.b,0,none⟩ bs.length) (by rw [xBs];rfl) (fun b hb=>by rw [xAf _ _ _ _ hb];rfl)
   exact ⟨_,A,_,rfl,Lib.below_freeze (hB.drew) (p:=⟨m1.b,0,none⟩) aa _,fun _ _=>Iff.rfl,Ev.refl.step g2,by simpa using g1,.str _⟩
 . rename_i ty a pm rest am;split at h
   case h_2=>simp at h
   rename_i O;have O:=zg O;subst O;simp only [z6,zb,true_and] at h;obtain ⟨rfl,rfl⟩:=h;refine ⟨xgK Tryz.func126 rfl (by kernel_rfl),fun w0 w A MM vs hI hB hR V=>?_⟩
   obtain ⟨v,rfl,hv⟩:=rc1 V;obtain ⟨m,c,hm,ab,hcap,rfl,hh,ai,hsz,r0,r1,e0,e1⟩:=xpp hR (by rfl) hv rfl
   have hn:c.getD 1 undef=.slice none 0 0:=by
    revert r1;generalize c.getD 1 undef=z;intro r1;cases r1;rfl
   rw [hn] at e1;refine (Tryz.builder_string_nil m.b w e1).mono ?_;rintro e w' ⟨rfl,rfl⟩;exact ⟨_,A,MM,rfl,hB.drew,fun _ _=>Iff.rfl,Ev.refl.step ⟨zd _,fun _ _ _=>rfl,fun _ _ h=>h,fun _ _ h _=>h,MExt.refl MM,⟨fun _ _ _=>rfl,fun i m1 h1 h0=>.inl ⟨i,m1,h1,h0,rfl⟩⟩⟩,hR.drew,.str _⟩
 . simp at h
end Go.Sim
end
noncomputable section
namespace Go.Sim
open Go.RowKit
variable {α β γ : Type}
structure Pat (α β:Type) where
 enc:β->α
 dec:α->Option β
 ok:∀ a b,dec a=some b->a=enc b
def xMk:Pat α α:=⟨fun b=>b,some,fun a b h=>by simpa using h⟩
def pInt (k:IntKind):Pat AV Int:=⟨.int k,fun v=>match v with
 | .int k' n=>match decide (k'=k) with
  | true=>some n
  | false=>none
 | _=>none,fun v n h=>by
 split at h
 . split at h
   . rename_i hk;simp only [z6] at h;rw [of_decide_eq_true hk,h]
   . simp at h
 . simp at h⟩
def pIntL (k:IntKind) (m:Int):Pat AV Unit:=⟨fun _=>.int k m,fun v=>match v with
 | .int k' n=>match decide (k'=k)&&decide (n=m) with
  | true=>some ()
  | false=>none
 | _=>none,fun v n h=>by
 split at h
 . split at h
   . rename_i hk;simp only [zf] at hk;rw [of_decide_eq_true hk.1,of_decide_eq_true hk.2]
   . simp at h
 . simp at h⟩
def pStr:Pat AV (List UInt8):=⟨.str,fun v=>match v with
 | .str s=>some s
 | _=>none,fun v n h=>by
 split at h
 . simp only [z6] at h;rw [h]
 . simp at h⟩
def pBool:Pat AV Bool:=⟨.bool,fun v=>match v with
 | .bool s=>some s
 | _=>none,fun v n h=>by
 split at h
 . simp only [z6] at h;rw [h]
 . simp at h⟩
def xMz (sz:Nat) (q:Pat (List AV) β):Pat AV β:=⟨fun b=>.list sz (q.enc b),fun v=>match v with
 | .list z xs=>match Nat.beq z sz with
  | true=>q.dec xs
  | false=>none
 | _=>none,fun v n h=>by
 split at h
 . split at h
   . rename_i hz;rw [zg hz,q.ok _ _ h]
   . simp at h
 . simp at h⟩
def xMs (id ver off:Nat):Pat AV Nat:=⟨.osl id ver off,fun v=>match v with
 | .osl (.b i) e o n=>match Nat.beq i id&&(Nat.beq e ver&&Nat.beq o off) with
  | true=>some n
  | false=>none
 | _=>none,fun v n h=>by
 split at h
 . split at h
   . rename_i hz;simp only [zf] at hz;simp only [z6] at h;rw [zg hz.1,zg hz.2.1,zg hz.2.2,h]
   . simp at h
 . simp at h⟩
def pOslV (id off:Nat):Pat AV (Nat×Nat):=⟨fun p=>.osl id p.1 off p.2,fun v=>match v with
 | .osl (.b i) e o n=>match Nat.beq i id&&Nat.beq o off with
  | true=>some (e,n)
  | false=>none
 | _=>none,fun v n h=>by
 split at h
 . split at h
   . rename_i hz;simp only [zf] at hz;simp only [z6] at h;rw [zg hz.1,zg hz.2,<-h]
   . simp at h
 . simp at h⟩
def pOwnV (id j:Nat):Pat AV (Nat×Nat):=⟨fun p=>.own id p.1 p.2 j,fun v=>match v with
 | .own (.b a) b c d=>match Nat.beq a id&&Nat.beq d j with
  | true=>some (b,c)
  | false=>none
 | _=>none,fun v n h=>by
 split at h
 . split at h
   . rename_i hz;simp only [zf] at hz;simp only [z6] at h;rw [zg hz.1,zg hz.2,<-h]
   . simp at h
 . simp at h⟩
def xMt (id ver i j:Nat):Pat AV Unit:=⟨fun _=>.own id ver i j,fun v=>match v with
 | .own (.b a) b c d=>match Nat.beq a id&&(Nat.beq b ver&&(Nat.beq c i&&Nat.beq d j)) with
  | true=>some ()
  | false=>none
 | _=>none,fun v n h=>by
 split at h
 . split at h
   . rename_i hz;simp only [zf] at hz;rw [zg hz.1,zg hz.2.1,zg hz.2.2.1,zg hz.2.2.2]
   . simp at h
 . simp at h⟩
def xMA (sz i j:Nat) (q:Pat (List AV) β):Pat AV β:=⟨fun b=>.eptr sz (q.enc b) i j,fun v=>match v with
 | .eptr a xs c d=>match Nat.beq a sz&&(Nat.beq c i&&Nat.beq d j) with
  | true=>q.dec xs
  | false=>none
 | _=>none,fun v n h=>by
 split at h
 . split at h
   . rename_i hz;simp only [zf] at hz;rw [zg hz.1,zg hz.2.1,zg hz.2.2,q.ok _ _ h]
   . simp at h
 . simp at h⟩
def xMu (q:Pat (List AV) β):Pat AV β:=⟨fun b=>.agg (q.enc b),fun v=>match v with
 | .agg cs=>q.dec cs
 | _=>none,fun v n h=>by
 split at h
 . rw [q.ok _ _ h]
 . simp at h⟩
def xLW (f:Nat) (q:Pat (List AV) β):Pat AV β:=⟨fun b=>.func f (q.enc b),fun v=>match v with
 | .func g cs=>match Nat.beq g f with
  | true=>q.dec cs
  | false=>none
 | _=>none,fun v n h=>by
 split at h
 . split at h
   . rename_i hz;rw [zg hz,q.ok _ _ h]
   . simp at h
 . simp at h⟩
def pNils:Pat AV Unit:=⟨fun _=>.nils,fun v=>match v with
 | .nils=>some ()
 | _=>none,fun v n h=>by
 split at h
 . rfl
 . simp at h⟩
def pNilptr:Pat AV Unit:=⟨fun _=>.nilptr,fun v=>match v with
 | .nilptr=>some ()
 | _=>none,fun v n h=>by
 split at h
 . rfl
 . simp at h⟩
def xMi:Pat (List α) Unit:=⟨fun _=>[],fun v=>match v with
 | []=>some ()
 | _=>none,fun v n h=>by
 split at h
 . rfl
 . simp at h⟩
def xMg (p:Pat α β) (q:Pat (List α) γ):Pat (List α) (β×γ):=⟨fun b=>p.enc b.1::q.enc b.2,fun v=>match v with
 | x::t=>match p.dec x with
  | some b=>match q.dec t with
   | some c=>some (b,c)
   | none=>none
  | none=>none
 | _=>none,fun v n h=>by
 split at h
 . split at h
   . rename_i hp;split at h
     . rename_i hq;cases h;rw [p.ok _ _ hp,q.ok _ _ hq]
     . simp at h
   . simp at h
 . simp at h⟩
def xMv (ver sz ty:Nat) (frz pm:Bool) (q:Pat (List AV) β):Pat Box β:=⟨fun b=>⟨ver,sz,ty,q.enc b,frz,pm⟩,fun v=>match v with
 | ⟨a,b,c,xs,f,p⟩=>match Nat.beq a ver&&(Nat.beq b sz&&(Nat.beq c ty&&((f==frz)&&(p==pm)))) with
  | true=>q.dec xs
  | false=>none,fun v n h=>by
 obtain ⟨a,b,c,xs,f,p⟩:=v;dsimp only at h;split at h
 . rename_i hz;simp only [zf,beq_iff_eq] at hz;rw [zg hz.1,zg hz.2.1,zg hz.2.2.1,hz.2.2.2.1,hz.2.2.2.2,q.ok _ _ h]
 . simp at h⟩
def pBoxV (sz ty:Nat) (frz pm:Bool) (q:Pat (List AV) β):Pat Box (Nat×β):=⟨fun b=>⟨b.1,sz,ty,q.enc b.2,frz,pm⟩,fun v=>match v with
 | ⟨a,b,c,xs,f,p⟩=>match Nat.beq b sz&&(Nat.beq c ty&&((f==frz)&&(p==pm))) with
  | true=>match q.dec xs with
   | some y=>some (a,y)
   | none=>none
  | false=>none,fun v n h=>by
 obtain ⟨a,b,c,xs,f,p⟩:=v;dsimp only at h;split at h
 . rename_i hz;simp only [zf,beq_iff_eq] at hz;split at h
   . rename_i y hy;simp only [z6] at h;rw [zg hz.1,zg hz.2.1,hz.2.2.1,hz.2.2.2,<-h,q.ok _ _ hy]
   . simp at h
 . simp at h⟩
def Sub (a b:AV):Prop:=∀ (w:World) (A:Nat->Prop) (M:Id->Option MB) (v:Value),Rel w A M v a->Rel w A M v b
def SubL (aS bs:List AV):Prop:=aS.length=bs.length/\∀ i,i<aS.length->Sub (aS.getD i .top) (bs.getD i .top)
theorem Sub.refl (a:AV):Sub a a:=fun _ _ _ _ h=>h
theorem Sub.of_eq {a b:AV} (h:a=b):Sub a b:=h▸Sub.refl a
theorem xs2 (sz:Nat):Sub .nils (.list sz []):=fun w A M v h=>by
 cases h;exact .list0 _ _ _
theorem xCG {aS bs:List AV} (h:SubL aS bs):Sub (.agg aS) (.agg bs):=fun w A M v hr=>by
 obtain ⟨vs,rfl,h1,h2⟩:=hr.agg_inv;exact .agg vs bs (h1.trans h.1) fun i hi=>h.2 i (h.1.symm▸hi) w A M _ (h2 i (h.1.symm▸hi))
theorem xFk {w:World} {A:Nat->Prop} {M:Id->Option MB} {vs:List Value} {aS bs:List AV} (h:SubL aS bs) (hr:RC w A M vs aS):RC w A M vs bs :=
 ⟨hr.1.trans h.1,fun i hi=>h.2 i (h.1.symm▸hi) w A M _ (hr.2 i (h.1.symm▸hi))⟩
structure SPat (β:Type) where
 enc:β->AV
 dec:AV->Option β
 ok:∀ a b,dec a=some b->Sub a (enc b)
structure SPatL (β:Type) where
 enc:β->List AV
 dec:List AV->Option β
 ok:∀ a b,dec a=some b->SubL a (enc b)
def sEq (p:Pat AV β):SPat β:=⟨p.enc,p.dec,fun a b h=>Sub.of_eq (p.ok a b h)⟩
def xMw (sz:Nat) (q:Pat (List AV) β):SPat β:=⟨fun b=>.list sz (q.enc b),fun v=>match v with
 | .nils=>q.dec []
 | .list z xs=>match Nat.beq z sz with
  | true=>q.dec xs
  | false=>none
 | _=>none,fun v n h=>by
 split at h
 . rw [<-q.ok _ _ h];exact xs2 sz
 . split at h
   . rename_i hz;rw [zg hz,q.ok _ _ h];exact Sub.refl _
   . simp at h
 . simp at h⟩
def xMy (q:SPatL β):SPat β:=⟨fun b=>.agg (q.enc b),fun v=>match v with
 | .agg cs=>q.dec cs
 | _=>none,fun v n h=>by
 split at h
 . exact xCG (q.ok _ _ h)
 . simp at h⟩
def xMj:SPatL Unit:=⟨fun _=>[],fun v=>match v with
 | []=>some ()
 | _=>none,fun v n h=>by
 split at h
 . exact ⟨rfl,fun i hi=>by simp at hi⟩
 . simp at h⟩
def xMh (p:SPat β) (q:SPatL γ):SPatL (β×γ):=⟨fun b=>p.enc b.1::q.enc b.2,fun v=>match v with
 | x::t=>match p.dec x with
  | some b=>match q.dec t with
   | some c=>some (b,c)
   | none=>none
  | none=>none
 | _=>none,fun v n h=>by
 split at h
 . split at h
   . rename_i hp;split at h
     . rename_i hq;cases h;obtain ⟨h1,h2⟩:=q.ok _ _ hq;refine ⟨by simp [h1],fun i hi=>?_⟩
       cases i with
       | zero=>exact p.ok _ _ hp
       | succ i=>exact h2 i (by simpa using hi)
     . simp at h
   . simp at h
 . simp at h⟩
def ocOf (pv:SPatL β) (g:β->Bool×AV):List AV->Option (Bool×AV):=fun xs=>match pv.dec xs with
 | some b=>some (g b)
 | none=>none
def omOf (pv:SPatL β) (pb:Pat (List Box) γ) (g:β->γ->Bool×AV×List Box):List AV->List Box->Option (Bool×AV×List Box):=fun xs H=>match pv.dec xs with
 | some b=>match pb.dec H with
  | some c=>some (g b c)
  | none=>none
 | none=>none
def lpOf (live liveO:List Nat) (conv:List (Nat×Nat×TypeId)) (pv:Pat (List AV) β) (pb:Pat (List Box) γ) (g:β->γ->Bool×LR):Lp:=⟨live,liveO,conv,fun xs H=>match pv.dec xs with
 | some b=>match pb.dec H with
  | some c=>some (g b c)
  | none=>none
 | none=>none⟩
section
variable {P : Program} {Inv : IV}
theorem xhm {n:FuncId} {pv:SPatL β} {g:β->Bool×AV} (h:∀ b r,g b=(true,r)->Good P Inv n (pv.enc b) r):OcOk P Inv n (ocOf pv g):=fun xs r e=>by
 unfold ocOf at e;split at e
 . rename_i b hb;simp only [z6] at e;obtain ⟨h1,h2⟩:=h b r e;exact ⟨h1,fun w A vs hi ha hr=>h2 w A vs hi ha (xFk (pv.ok _ _ hb) hr)⟩
 . simp at e
theorem xnc {n:FuncId} {pv:SPatL β} {pb:Pat (List Box) γ} {g:β->γ->Bool×AV×List Box} (h:∀ b c r H',g b c=(true,r,H')->GoodM P Inv n (pv.enc b) (pb.enc c) r H'):OmOk P Inv n (omOf pv pb g):=fun xs H r H' e=>by
 unfold omOf at e;split at e
 . rename_i b hb;split at e
   . rename_i c hc;simp only [z6] at e;rw [pb.ok _ _ hc];obtain ⟨h1,h2⟩:=h b c r H' e;exact ⟨h1,fun w0 w A M vs hi q hR hr=>h2 w0 w A M vs hi q hR (xFk (pv.ok _ _ hb) hr)⟩
   . simp at e
 . simp at e
theorem xJj {nt:Nat} {l:Code} {live liveO:List Nat} {conv:List (Nat×Nat×TypeId)} {pv:Pat (List AV) β} {pb:Pat (List Box) γ} {g:β->γ->Bool×LR}
  (h:∀ b c r,g b c=(true,r)->DoesL P Inv l (fun e1 s1=>e1=r.eval.1/\s1=⟨mkTs nt (liveO.zip r.eval.2.1),r.eval.2.2⟩) ⟨mkTs nt (live.zip (pv.enc b)),pb.enc c⟩):LoopOk P Inv nt l (lpOf live liveO conv pv pb g):=fun vals H r e=>by
 unfold lpOf at e;dsimp only at e;split at e
 . rename_i b hb;split at e
   . rename_i c hc;simp only [z6] at e;rw [pv.ok _ _ hb,pb.ok _ _ hc];exact h b c r e
   . simp at e
 . simp at e
end
theorem xbF {x:Option α} {d:α} (h:x.isSome=true):x=some (x.getD d):=by
 cases x with
 | none=>simp at h
 | some y=>rfl
end Go.Sim
end
noncomputable section
namespace Go.Sim.M
open Go.RowKit Go.Proofs
def E0:Env:=(((Env.none.with 117 xlY).with 124 xpn).withM 142 xrM).withM 126 xmv
theorem xGx:xLz Tryz.prog xMf E0:=(((xDq.with xuF).with xyk).withM xBm).withM xu9
end Go.Sim.M
end
noncomputable section
namespace Go.Sim
open Go.RowKit
def EncS {α:Type} (f:α->AV) (a:Option α) (b:Option AV):Prop:=∀ r,a=some r->∃ x,b=some x/\Sub x (f r)
theorem EncS.none {α:Type} {f:α->AV} {b:Option AV}:EncS f .none b:=fun r h=>by simp at h
theorem EncS.some {α:Type} {f:α->AV} {a:α} {b:AV} (h:Sub b (f a)):EncS f (Option.some a) (Option.some b):=fun r e=>by cases e;exact ⟨b,rfl,h⟩
theorem EncS.br {α:Type} {f:α->AV} {t:Bool} {a a':Option α} {b b':Option AV} (h1:EncS f a b) (h2:EncS f a' b'):EncS f (Sim.br t a a') (Sim.br t b b'):=by cases t<;>assumption
theorem xzC (sz:Nat) (x:AV):Sub (.tuple [.nils,x]) (.tuple [.list sz [],x]):=fun w A M v h=>by
 obtain ⟨vs,rfl,hs,hr⟩:=h.tuple_inv;refine .tuple vs _ hs fun i hi=>?_
 match i,hi with
 | 0,_=>exact xs2 sz w A M _ (hr 0 (by simp))
 | 1,_=>exact hr 1 (by simp)
theorem Good.sub {P:Program} {Inv:IV} {f:FuncId} {args:List AV} {r r':AV} (h:Good P Inv f args r) (hs:Sub r r'):Good P Inv f args r' :=
 ⟨h.1,fun w A vs hI hA q=>(h.2 w A vs hI hA q).mono fun e w' ⟨v,he,hb,hr⟩=>⟨v,he,hb,hs w' A xLM v hr⟩⟩
theorem GoodM.bump1 {P:Program} {Inv:IV} {f:FuncId} {args:List AV} {H:List Box} {v v' k sz:Nat} {ty:TypeId} {xs:List AV} {frz pm:Bool} (U:isC ty=false) (hv:v<v')
  (h:GoodM P Inv f args H (.osl (.b 0) v 0 k) [⟨v,sz,ty,xs,frz,pm⟩]):GoodM P Inv f args H (.osl (.b 0) v' 0 k) [⟨v',sz,ty,xs,frz,pm⟩]:=by
 refine ⟨h.1,fun w0 w A M vs hI hB hR V=>(h.2 w0 w A M vs hI hB hR V).mono ?_⟩
 rintro e w' ⟨u,A',M',rfl,h1,h2,h3,h4,h5⟩;obtain ⟨m,g1,g2,g3,g4⟩:=Rel.osl_inv h5;obtain ⟨bx,q1,q2⟩:=h4.box _ m g1;have:bx=⟨v,sz,ty,xs,frz,pm⟩:=by
  have:=q1;rw [xbY] at this;simpa using this.symm
 subst this;have Q:v=m.ver:=q2.ver;have O:MExt M' (MSet M' (.b 0) ⟨m.b,v',m.sz,m.cap,m.ty⟩):=xoZ g1 (.inr (by simp only;omega))
 have J:∀ id m1,MSet M' (.b 0) ⟨m.b,v',m.sz,m.cap,m.ty⟩ id=some m1->∃ m0,M' id=some m0/\m1.b=m0.b/\m1.cap=m0.cap:=fun id m1 q=>by
  by_cases hi:id=.b 0
  . subst hi;simp [MSet] at q;subst q;exact ⟨m,g1,rfl,rfl⟩
  . exact ⟨m1,by simpa [MSet,hi] using q,rfl,rfl⟩
 have hR':HR w' A' (MSet M' (.b 0) ⟨m.b,v',m.sz,m.cap,m.ty⟩) w0.heap.size [⟨v',sz,ty,xs,frz,pm⟩]:=by
  refine ⟨fun id m1 q=>?_,fun id id' m1 m2 k1 k2 c1 c2 he=>?_,h4.lt⟩
  . by_cases hi:id=.b 0
    . subst hi;have:m1=⟨m.b,v',m.sz,m.cap,m.ty⟩:=by simp [MSet] at q;exact q.symm
      subst this;have q3:=q2.mono (w':=w') (fun _=>rfl) (fun _ _ _=>rfl) (zd _) (fun _ _ h=>h) q2.guard O
      exact ⟨⟨v',sz,ty,xs,frz,pm⟩,rfl,rfl,q3.sz,q3.ty,q3.capm,q3.fits,q3.ok,q3.low,q3.lt,q3.cells,q3.guard⟩
    . have Y:M' id=some m1:=by simpa [MSet,hi] using q
      obtain ⟨bx,k1,k2⟩:=h4.box id m1 Y;have k3:getB [⟨v',sz,ty,xs,frz,pm⟩] id=some bx:=by
       rw [<-k1];exact xcP (H:=[⟨v,sz,ty,xs,frz,pm⟩]) (n:=0) (bx:=⟨v,sz,ty,xs,frz,pm⟩) (bx':=⟨v',sz,ty,xs,frz,pm⟩) rfl U U hi
      exact ⟨bx,k3,k2.mono (fun _=>rfl) (fun _ _ _=>rfl) (zd _) (fun _ _ h=>h) k2.guard O⟩
  . obtain ⟨n1,a1,a2,a3⟩:=J id m1 k1;obtain ⟨n2,b1,b2,b3⟩:=J id' m2 k2;exact h4.inj id id' n1 n2 a1 b1 (by omega) (by omega) (by rw [<-a2,<-b2,he])
 refine ⟨u,A',MSet M' (.b 0) ⟨m.b,v',m.sz,m.cap,m.ty⟩,rfl,h1,h2,h3.step ⟨zd _,fun _ _ _=>rfl,fun _ _ h=>h,fun _ _ h _=>h,O,⟨fun _ _ _=>rfl,fun id m1 q h0=>?_⟩⟩,hR',?_⟩
 . obtain ⟨n1,a1,a2,a3⟩:=J id m1 q;exact .inl ⟨id,n1,a1,by omega,a2⟩
 . exact .osl u (.b 0) v' 0 k ⟨m.b,v',m.sz,m.cap,m.ty⟩ (by simp [MSet]) (zd _) g3 fun _=>g4 Q
theorem GoodM.weaken {P:Program} {Inv:IV} {f:FuncId} {args:List AV} {H H1 H2:List Box} {r r2:AV} (h:GoodM P Inv f args H r H1)
  (hw:∀ w A M B v,HR w A M B H1->Rel w A M v r->∃ M',HR w A M' B H2/\Mv w A M w A M'/\Rel w A M' v r2):GoodM P Inv f args H r2 H2:=by
 refine ⟨h.1,fun w0 w A M vs hI hB hR q=>(h.2 w0 w A M vs hI hB hR q).mono ?_⟩
 rintro e w' ⟨u,A',M',rfl,h1,h2,h3,h4,h5⟩;obtain ⟨M2,g1,g2,g3⟩:=hw w' A' M' _ u h4 h5;exact ⟨u,A',M2,rfl,h1,h2,h3.step g2,g1,g3⟩
theorem xEE {w:World} {A:Nat->Prop} {M:Id->Option MB} {B:Nat} {H:List Box} (hR:HR w A M B H) {n:Nat} {m:MB} {bx:Box} (hm:M (.b n)=some m) (hb:H[n]?=some bx) (Q:isC bx.ty=false) (v:Nat) (hv:m.ver<v) (sz:Nat) (ty:TypeId) (O:isC ty=false) :
  HR w A (MSet M (.b n) ⟨m.b,v,sz,0,ty⟩) B (H.set n ⟨v,sz,ty,[],false,true⟩)/\Mv w A M w A (MSet M (.b n) ⟨m.b,v,sz,0,ty⟩):=by
 have J:MExt M (MSet M (.b n) ⟨m.b,v,sz,0,ty⟩):=xoZ hm (.inr hv);have hc:∀ {p:Prop},0<(0:Nat)->p:=fun h=>absurd h (by omega)
 have q:∀ i m1,MSet M (.b n) ⟨m.b,v,sz,0,ty⟩ i=some m1->0<m1.cap->i≠.b n/\M i=some m1:=fun i m1 h1 h0=>by
  by_cases hi:i=.b n
  . subst hi;simp [MSet] at h1;subst h1;exact absurd h0 (by simp)
  . exact ⟨hi,by simpa [MSet,hi] using h1⟩
 refine ⟨⟨fun i m1 h1=>?_,fun i i' m1 m2 h1 h2 c1 c2 he=>hR.inj i i' m1 m2 (q i m1 h1 c1).2 (q i' m2 h2 c2).2 c1 c2 he,hR.lt⟩,⟨zd _,fun _ _ _=>rfl,fun _ _ h=>h,fun _ _ h _=>h,J,⟨fun _ _ _=>rfl,fun i m1 h1 h0=>.inl ⟨i,m1,(q i m1 h1 h0).2,h0,rfl⟩⟩⟩⟩
 by_cases hi:i=.b n
 . subst hi;have:m1=⟨m.b,v,sz,0,ty⟩:=by simp [MSet] at h1;exact h1.symm
   subst this;exact ⟨⟨v,sz,ty,[],false,true⟩,by rw [xbY,zL (xdi hb)],rfl,rfl,xbn O,zQ _,zQ _,fun x hx=>by simp at hx,hc,hc,hc,hc⟩
 . have V:M i=some m1:=by simpa [MSet,hi] using h1
   obtain ⟨U,g1,g2⟩:=hR.box i m1 V;exact ⟨U,by rw [xcP hb Q O hi];exact g1,g2.mono (fun _=>rfl) (fun _ _ _=>rfl) (zd _) (fun _ _ h=>h) g2.guard J⟩
theorem GoodM.drop0 {P:Program} {Inv:IV} {f:FuncId} {args:List AV} {H:List Box} {v v' w k sz Q:Nat} {ty O:TypeId} {xs ys:List AV} {frz pm U J:Bool} (q:isC ty=false) (hv:v<v')
  (h:GoodM P Inv f args H (.osl (.b 1) w 0 k) [⟨v,sz,ty,xs,frz,pm⟩,⟨w,Q,O,ys,U,J⟩]):GoodM P Inv f args H (.osl (.b 1) w 0 k) [⟨v',sz,ty,[],false,true⟩,⟨w,Q,O,ys,U,J⟩] :=
 h.weaken fun w1 A M B u hR hr=>by
  cases hm:M (.b 0) with
  | some m =>
   obtain ⟨bx,q1,q2⟩:=hR.box _ m hm;have hb:[(⟨v,sz,ty,xs,frz,pm⟩:Box),⟨w,Q,O,ys,U,J⟩][0]?=some ⟨v,sz,ty,xs,frz,pm⟩:=rfl;rw [xbY,hb] at q1;cases q1;obtain ⟨g1,g2⟩:=xEE hR hm hb q v' (by have:v=m.ver:=q2.ver;omega) sz ty q
   exact ⟨_,g1,g2,g2.rel hr⟩
  | none =>
   refine ⟨M,⟨fun i m V=>?_,hR.inj,hR.lt⟩,Mv.refl,hr⟩
   obtain ⟨bx,q1,q2⟩:=hR.box i m V;refine ⟨bx,?_,q2⟩;by_cases hi:i=.b 0
   . subst hi;rw [hm] at V;cases V
   . rw [<-q1];exact xcP (H:=[⟨v,sz,ty,xs,frz,pm⟩,⟨w,Q,O,ys,U,J⟩]) (n:=0) (bx:=⟨v,sz,ty,xs,frz,pm⟩) (bx':=⟨v',sz,ty,[],false,true⟩) rfl q q hi
theorem GoodM.move0 {P:Program} {Inv:IV} {f:FuncId} {args:List AV} {H:List Box} {v v' w k sz:Nat} {ty:TypeId} {xs:List AV} {frz:Bool} (q:isC ty=false) (hv:v<v')
  (h:GoodM P Inv f args H (.osl (.b 0) v 0 k) [⟨v,sz,ty,xs,frz,true⟩]):GoodM P Inv f args H (.osl (.b 1) w 0 k) [⟨v',sz,ty,[],false,true⟩,⟨w,sz,ty,xs,frz,true⟩] :=
 h.weaken fun w1 A M B u hR hr=>by
  obtain ⟨m,g1,g2,g3,g4⟩:=Rel.osl_inv hr;obtain ⟨bx,q1,q2⟩:=hR.box _ m g1;have:bx=⟨v,sz,ty,xs,frz,true⟩:=by
   have:=q1;rw [xbY] at this;simpa using this.symm
  subst this;have U:v=m.ver:=q2.ver;have V:M (.b 1)=none:=by
   cases h1:M (.b 1) with
   | none=>rfl
   | some m1=>obtain ⟨b1,k1,_⟩:=hR.box _ m1 h1;rw [xbY] at k1;simp at k1
  have Q:∀ n i j m1,M (.r n i j)=some m1->n=0:=fun n i j m1 h1=>by
   obtain ⟨b1,k1,_⟩:=hR.box _ m1 h1;obtain ⟨b0,k2,_⟩:=xnG k1;have:=xdi k2;simp at this;omega
  let M2:Id->Option MB:=MSet (MSet M (.b 0) ⟨m.b,v',sz,0,ty⟩) (.b 1) ⟨m.b,w,m.sz,m.cap,m.ty⟩;have e1:M2 (.b 1)=some ⟨m.b,w,m.sz,m.cap,m.ty⟩:=by simp [M2,MSet]
  have e0:M2 (.b 0)=some ⟨m.b,v',sz,0,ty⟩:=by simp [M2,MSet]
  have eo:∀ i,i≠.b 0->i≠.b 1->M2 i=M i:=fun i h0 h1=>by simp [M2,MSet,h0,h1]
  have J:MExt M M2:=fun i m1 h1=>by
   by_cases h0:i=.b 0
   . subst h0;rw [g1] at h1;cases h1;exact ⟨_,e0,.inr (by simp only;omega)⟩
   . by_cases h2:i=.b 1
     . subst h2;rw [V] at h1;cases h1
     . exact ⟨m1,by rw [eo i h0 h2];exact h1,.inl rfl⟩
  have O:∀ i m1,M2 i=some m1->0<m1.cap->i≠.b 0/\∃ i0 m0,M i0=some m0/\m0.b=m1.b/\m0.cap=m1.cap/\(i=.b 1->i0=.b 0)/\(i≠.b 1->i0=i):=fun i m1 h1 h0=>by
   by_cases hi:i=.b 0
   . subst hi;rw [e0] at h1;cases h1;exact absurd h0 (by simp)
   . refine ⟨hi,?_⟩;by_cases h2:i=.b 1
     . subst h2;rw [e1] at h1;cases h1;exact ⟨.b 0,m,g1,rfl,rfl,fun _=>rfl,fun h=>absurd rfl h⟩
     . rw [eo i hi h2] at h1;exact ⟨i,m1,h1,rfl,rfl,fun h=>absurd h h2,fun _=>rfl⟩
  refine ⟨M2,⟨fun i m1 h1=>?_,fun i i' m1 m2 h1 h2 c1 c2 he=>?_,hR.lt⟩,⟨zd _,fun _ _ _=>rfl,fun _ _ h=>h,fun _ _ h _=>h,J,⟨fun _ _ _=>rfl,fun i m1 h1 h0=>?_⟩⟩,?_⟩
  . by_cases hi:i=.b 0
    . subst hi;rw [e0] at h1;cases h1;have hc:∀ {p:Prop},0<(0:Nat)->p:=fun h=>absurd h (by omega)
      exact ⟨⟨v',sz,ty,[],false,true⟩,rfl,rfl,rfl,xbn q,zQ _,zQ _,fun x hx=>by simp at hx,hc,hc,hc,hc⟩
    . by_cases h2:i=.b 1
      . subst h2;rw [e1] at h1;cases h1;have q3:=q2.mono (w':=w1) (A':=A) (fun _=>rfl) (fun _ _ _=>rfl) (zd _) (fun _ _ h=>h) q2.guard J
        refine ⟨⟨w,sz,ty,xs,frz,true⟩,rfl,rfl,q3.sz,q3.ty,q3.capm,q3.fits,q3.ok,q3.low,q3.lt,fun h0=>?_,q3.guard⟩
        obtain ⟨c,c1,c2,c3⟩:=q3.cells h0;refine ⟨c,c1,c2,fun i j hi hj=>?_⟩
        have:=c3 i j hi hj;rw [xaX q,xbA q] at this;rw [xaX q,xbA (bx:=⟨w,sz,ty,xs,frz,true⟩) q];exact this
      . rw [eo i hi h2] at h1;obtain ⟨b1,k1,k2⟩:=hR.box i m1 h1;cases i with
        | b n =>
         rw [xbY] at k1;have:=xdi k1;have:n=0:=by simp at this;omega
         subst this;exact absurd rfl hi
        | r n a b =>
         have hn:=Q n a b m1 h1;subst hn;rw [xey (H:=[⟨v,sz,ty,xs,frz,true⟩]) (by rfl) q] at k1
         cases k1;exact ⟨tombB,xey (by rfl) q,k2.mono (fun _=>rfl) (fun _ _ _=>rfl) (zd _) (fun _ _ h=>h) k2.guard J⟩
  . obtain ⟨a1,i0,n0,a2,a3,a4,a5,a6⟩:=O i m1 h1 c1;obtain ⟨b1,j0,n1,b2,b3,b4,b5,b6⟩:=O i' m2 h2 c2;have:=hR.inj i0 j0 n0 n1 a2 b2 (by omega) (by omega) (by rw [a3,b3,he])
    by_cases hi:i=.b 1
    . by_cases hj:i'=.b 1
      . rw [hi,hj]
      . rw [a5 hi,b6 hj] at this;exact absurd this.symm b1
    . by_cases hj:i'=.b 1
      . rw [a6 hi,b5 hj] at this;exact absurd this a1
      . rw [a6 hi,b6 hj] at this;exact this
  . obtain ⟨a1,i0,n0,a2,a3,a4,_,_⟩:=O i m1 h1 h0;exact .inl ⟨i0,n0,a2,by omega,a3.symm⟩
  . exact .osl u (.b 1) w 0 k ⟨m.b,w,m.sz,m.cap,m.ty⟩ e1 (zd _) g3 fun _=>g4 U
end Go.Sim
end
noncomputable section
namespace Go.Sim
open Go.RowKit Go.Proofs
noncomputable abbrev P0:Program:=Tryz.prog
section
variable {α β γ ρ σ : Type}
def qI:Pat AV Int:=pInt .i64
def qL (k:Nat):Pat AV (List AV):=xMz k xMk
def qB {β:Type} (v s t:Nat) (q:Pat (List AV) β):Pat Box β:=xMv v s t false true q
def bF (v s t:Nat) (x:List AV):Box:=⟨v,s,t,x,false,true⟩
def uI:SPat Int:=sEq qI
def uL (k:Nat):SPat (List AV):=xMw k xMk
def q1 {α α0:Type} (a:Pat α α0):Pat (List α) (α0×Unit):=xMg a (xMi)
def q2 {α α0 α1:Type} (a:Pat α α0) (b:Pat α α1):Pat (List α) (α0×α1×Unit):=xMg a (xMg b (xMi))
def q3 {α α0 α1 α2:Type} (a:Pat α α0) (b:Pat α α1) (c:Pat α α2):Pat (List α) (α0×α1×α2×Unit):=xMg a (xMg b (xMg c (xMi)))
def q4 {α α0 α1 α2 α3:Type} (a:Pat α α0) (b:Pat α α1) (c:Pat α α2) (d:Pat α α3):Pat (List α) (α0×α1×α2×α3×Unit):=xMg a (xMg b (xMg c (xMg d (xMi))))
def q5 {α α0 α1 α2 α3 α4:Type} (a:Pat α α0) (b:Pat α α1) (c:Pat α α2) (d:Pat α α3) (e:Pat α α4):Pat (List α) (α0×α1×α2×α3×α4×Unit):=xMg a (xMg b (xMg c (xMg d (xMg e (xMi)))))
def q6 {α α0 α1 α2 α3 α4 α5:Type} (a:Pat α α0) (b:Pat α α1) (c:Pat α α2) (d:Pat α α3) (e:Pat α α4) (f:Pat α α5):Pat (List α) (α0×α1×α2×α3×α4×α5×Unit):=xMg a (xMg b (xMg c (xMg d (xMg e (xMg f (xMi))))))
def q7 {α α0 α1 α2 α3 α4 α5 α6:Type} (a:Pat α α0) (b:Pat α α1) (c:Pat α α2) (d:Pat α α3) (e:Pat α α4) (f:Pat α α5) (g:Pat α α6):Pat (List α) (α0×α1×α2×α3×α4×α5×α6×Unit):=xMg a (xMg b (xMg c (xMg d (xMg e (xMg f (xMg g (xMi)))))))
def q8 {α α0 α1 α2 α3 α4 α5 α6 α7:Type} (a:Pat α α0) (b:Pat α α1) (c:Pat α α2) (d:Pat α α3) (e:Pat α α4) (f:Pat α α5) (g:Pat α α6) (h:Pat α α7):Pat (List α) (α0×α1×α2×α3×α4×α5×α6×α7×Unit):=xMg a (xMg b (xMg c (xMg d (xMg e (xMg f (xMg g (xMg h (xMi))))))))
def q9 {α α0 α1 α2 α3 α4 α5 α6 α7 α8:Type} (a:Pat α α0) (b:Pat α α1) (c:Pat α α2) (d:Pat α α3) (e:Pat α α4) (f:Pat α α5) (g:Pat α α6) (h:Pat α α7) (i:Pat α α8):Pat (List α) (α0×α1×α2×α3×α4×α5×α6×α7×α8×Unit):=xMg a (xMg b (xMg c (xMg d (xMg e (xMg f (xMg g (xMg h (xMg i (xMi)))))))))
def q10 {α α0 α1 α2 α3 α4 α5 α6 α7 α8 α9:Type} (a:Pat α α0) (b:Pat α α1) (c:Pat α α2) (d:Pat α α3) (e:Pat α α4) (f:Pat α α5) (g:Pat α α6) (h:Pat α α7) (i:Pat α α8) (j:Pat α α9):Pat (List α) (α0×α1×α2×α3×α4×α5×α6×α7×α8×α9×Unit):=xMg a (xMg b (xMg c (xMg d (xMg e (xMg f (xMg g (xMg h (xMg i (xMg j (xMi))))))))))
def u1 {α0:Type} (a:SPat α0):SPatL (α0×Unit):=xMh a (xMj)
def u2 {α0 α1:Type} (a:SPat α0) (b:SPat α1):SPatL (α0×α1×Unit):=xMh a (xMh b (xMj))
def u3 {α0 α1 α2:Type} (a:SPat α0) (b:SPat α1) (c:SPat α2):SPatL (α0×α1×α2×Unit):=xMh a (xMh b (xMh c (xMj)))
def u4 {α0 α1 α2 α3:Type} (a:SPat α0) (b:SPat α1) (c:SPat α2) (d:SPat α3):SPatL (α0×α1×α2×α3×Unit):=xMh a (xMh b (xMh c (xMh d (xMj))))
def u5 {α0 α1 α2 α3 α4:Type} (a:SPat α0) (b:SPat α1) (c:SPat α2) (d:SPat α3) (e:SPat α4):SPatL (α0×α1×α2×α3×α4×Unit):=xMh a (xMh b (xMh c (xMh d (xMh e (xMj)))))
def u6 {α0 α1 α2 α3 α4 α5:Type} (a:SPat α0) (b:SPat α1) (c:SPat α2) (d:SPat α3) (e:SPat α4) (f:SPat α5):SPatL (α0×α1×α2×α3×α4×α5×Unit):=xMh a (xMh b (xMh c (xMh d (xMh e (xMh f (xMj))))))
def u7 {α0 α1 α2 α3 α4 α5 α6:Type} (a:SPat α0) (b:SPat α1) (c:SPat α2) (d:SPat α3) (e:SPat α4) (f:SPat α5) (g:SPat α6):SPatL (α0×α1×α2×α3×α4×α5×α6×Unit):=xMh a (xMh b (xMh c (xMh d (xMh e (xMh f (xMh g (xMj)))))))
def LR.okB:LR->Bool
 | .leaf e _ _=>match e with|.normal=>false|_=>true
 | .node _ a b=>a.okB&&b.okB
theorem LR.okB_ne:∀ {r:LR},r.okB=true->r.eval.1≠.normal
 | .leaf e _ _,h=>fun c=>by
  have c:e=.normal:=c;subst c;simp [LR.okB] at h
 | .node true a b,h=>LR.okB_ne (r:=a) (by simp only [LR.okB,zf] at h;exact h.1)
 | .node false a b,h=>LR.okB_ne (r:=b) (by simp only [LR.okB,zf] at h;exact h.2)
abbrev StT (σ ρ:Type):=σ->Option (σ⊕ρ)
def inL {σ ρ:Type} (s:σ):Option (σ⊕ρ):=some (.inl s)
def inR {σ ρ:Type} (p:ρ):Option (σ⊕ρ):=some (.inr p)
def ixI (l:List AV) (i:Int):Bool:=decide ((0:Int)<=i)&&decide (i<(↑l.length:Int))
def ixS (l:List AV) (i:Int) (s:Sh) (k:Nat):Bool:=decide (i.toNat<l.length)&&xLw s ((l.getD i.toNat .top).cells.getD k .top)
def ixT (l:List AV) (i:Int) (n:Nat) (ss:List Sh) (k:Nat):Bool:=decide (i.toNat<l.length)&&((l.getD i.toNat .top).cells.length==n&&xLE ss (l.getD i.toNat .top).cells k)
def gC (l:List AV) (i:Int) (k:Nat):AV:=(l.getD i.toNat .top).cells.getD k .top
def rmB (n:Nat) (l:List AV) (c z:Nat):Bool:=n==l.length&&(decide ((n+c)*z<=140737488355328)&&decide (n+c<=4611686018427387904))
abbrev RT:=Exit×List AV×List Box
abbrev HL (E:Env) (nt pin:Nat) (ls:List TypeId) (lp:List (Nat×Lp)) (fn:Func):Prop:=LoOk Tryz.prog (xMf.at pin) (E.fn nt pin (lsOf ls) (xLV lp)) (fn.body.getD .skip)
abbrev FX (E:Env) (nt pin:Nat) (ls:List TypeId) (lp:List (Nat×Lp)) (fn:Func) (pv:SPatL β) (t:β->(T:Type)->T->(ρ->T)->T) (e:β->ρ->AV):Prop:=∀ b,XF Tryz.prog (E.fn nt pin (lsOf ls) (xLV lp)) fn (fn.body.getD .skip) (pv.enc b)=t b (Option AV) none fun p=>some (e b p)
abbrev FE (t:β->(T:Type)->T->(ρ->T)->T) (e:β->ρ->AV):Prop:=∀ b,Enc (e b) (t b (Option ρ) none some) (t b (Option AV) none fun p=>some (e b p))
abbrev MX (E:Env) (nt pin:Nat) (ls:List TypeId) (lp:List (Nat×Lp)) (fn:Func) (pv:SPatL β) (pb:Pat (List Box) γ) (t:β->γ->(T:Type)->T->(ρ->T)->T) (e:β->γ->ρ->AV×List Box):Prop:=∀ b c,XFM Tryz.prog (E.fn nt pin (lsOf ls) (xLV lp)) fn (fn.body.getD .skip) (pv.enc b) (pb.enc c)=t b c (Option (AV×List Box)) none fun p=>some (e b c p)
abbrev ME (t:β->γ->(T:Type)->T->(ρ->T)->T) (e:β->γ->ρ->AV×List Box):Prop:=∀ b c,Enc (e b c) (t b c (Option ρ) none some) (t b c (Option (AV×List Box)) none fun p=>some (e b c p))
abbrev TX (E:Env) (nt pin:Nat) (ls:List TypeId) (lp:List (Nat×Lp)) (fn:Func) (pv:SPatL β) (t:β->(ρ->Option AV)->Option AV) (e:β->ρ->AV):Prop:=∀ b,XF Tryz.prog (E.fn nt pin (lsOf ls) (xLV lp)) fn (fn.body.getD .skip) (pv.enc b)=t b fun p=>some (e b p)
noncomputable abbrev LX (E:Env) (nt pin:Nat) (ls:List TypeId) (lp:List (Nat×Lp)) (l:Code) (lv lo:List Nat) (cv:List (Nat×Nat×TypeId)) (pv:Pat (List AV) β) (pb:Pat (List Box) γ) (F:β->γ->(σ->Option (σ⊕ρ))×σ×(ρ->LR)) (G:β->γ->σ->(β×γ)×((σ->Option RT)->(ρ->Option RT)->Option RT)):Prop:=∀ b c s,XR Tryz.prog (E.fn nt pin (lsOf ls) (xLV lp)) lv lo cv l (pv.enc (G b c s).1.1) (pb.enc (G b c s).1.2)=(G b c s).2 (fun s=>some (encR (fun s=>(pv.enc (G b c s).1.1,pb.enc (G b c s).1.2)) (F b c).2.2 (.inl s))) fun p=>some (encR (fun s=>(pv.enc (G b c s).1.1,pb.enc (G b c s).1.2)) (F b c).2.2 (.inr p))
abbrev LE (pv:Pat (List AV) β) (pb:Pat (List Box) γ) (F:β->γ->(σ->Option (σ⊕ρ))×σ×(ρ->LR)) (G:β->γ->σ->(β×γ)×((σ->Option RT)->(ρ->Option RT)->Option RT)):Prop:=∀ b c s,Enc (encR (fun s=>(pv.enc (G b c s).1.1,pb.enc (G b c s).1.2)) (F b c).2.2) ((F b c).1 s) ((G b c s).2 (fun s=>some (encR (fun s=>(pv.enc (G b c s).1.1,pb.enc (G b c s).1.2)) (F b c).2.2 (.inl s))) fun p=>some (encR (fun s=>(pv.enc (G b c s).1.1,pb.enc (G b c s).1.2)) (F b c).2.2 (.inr p)))
theorem eV {f:α->β} {a:Option α} {b:Option β} (Y:Option β) (h:b=Y) (he:Enc f a Y):Enc f a b:=h▸he
abbrev LA:=List AV
theorem lkN {P:Program} {Inv:IV} {E:Env}:∀ c,c∈([]:List Code)->∀ lp,E.lp (xLN c)=some lp->LoopOk P Inv E.nt c lp:=fun c h=>by simp at h
theorem lkC {P:Program} {Inv:IV} {E:Env} {l:Code} {ls:List Code} {lp0:Lp} (hok:LoopOk P Inv E.nt l lp0) (ht:∀ c,c∈ls->∀ lp,E.lp (xLN c)=some lp->LoopOk P Inv E.nt c lp) (h:E.lp (xLN l)=some lp0:=by kernel_rfl):∀ c,c∈l::ls->∀ lp,E.lp (xLN c)=some lp->LoopOk P Inv E.nt c lp:=fun c hc lp hs=>by
 rcases zC.1 hc with rfl|hc
 . rw [h,z6] at hs;subst hs;exact hok
 . exact ht c hc lp hs
theorem eN {f:α->β} {b:Option β}:Enc f none b:=Enc.none
theorem eS {f:α->β} {a:α} {b:β} (h:b=f a):Enc f (some a) (some b):=Enc.some h
theorem eB {f:α->β} {t:Bool} {a a':Option α} {b b':Option β} (h1:Enc f a b) (h2:Enc f a' b'):Enc f (br t a a') (br t b b'):=Enc.br h1 h2
def fnO (pv:SPatL β) (t:β->(T:Type)->T->(ρ->T)->T) (e:β->ρ->AV) (d:ρ):List AV->Option (Bool×AV):=ocOf pv fun b=>((t b (Option ρ) none some).isSome,e b ((t b (Option ρ) none some).getD d))
def fmO (pv:SPatL β) (pb:Pat (List Box) γ) (t:β->γ->(T:Type)->T->(ρ->T)->T) (e:β->γ->ρ->AV×List Box) (d:ρ):List AV->List Box->Option (Bool×AV×List Box):=omOf pv pb fun b c=>((t b c (Option ρ) none some).isSome,e b c ((t b c (Option ρ) none some).getD d))
noncomputable def lpO (lv lo:List Nat) (cv:List (Nat×Nat×TypeId)) (pv:Pat (List AV) β) (pb:Pat (List Box) γ) (F:β->γ->(σ->Option (σ⊕ρ))×σ×(ρ->LR)) (d:ρ):Lp :=
 lpOf lv lo cv pv pb fun b c=>((Iter (F b c).1 (F b c).2.1).isSome,(F b c).2.2 ((Iter (F b c).1 (F b c).2.1).getD d))
section
variable {E : Env}
def Tot {α:Type} (e:ρ->α) (a:ρ) (x:Option α):Prop:=x=some (e a)
theorem eT {α:Type} {e:ρ->α} {t:Bool} {a b:ρ} {x y:Option α} (h1:Tot e a x) (h2:Tot e b y):Tot e (br t a b) (br t x y):=by cases t<;>assumption
theorem eU {α:Type} {e:ρ->α} {a:ρ} {x:α} (h:x=e a):Tot e a (some x):=congrArg some h
def ftO (pv:SPatL β) (f:β->ρ) (e:β->ρ->AV):List AV->Option (Bool×AV):=ocOf pv fun b=>(true,e b (f b))
theorem ftC (h:xLz Tryz.prog xMf E) {g:FuncId} {fn:Func} (hf:Tryz.prog.funcs[g]?=some fn) (nt pin:Nat) (ls:List TypeId) (lp:List (Nat×Lp)) {pv:SPatL β} {f:β->ρ} {e:β->ρ->AV}
  (hl:HL E nt pin ls lp fn) (t:β->(ρ->Option AV)->Option AV) (hx:TX E nt pin ls lp fn pv t e:=by intro b;kernel_rfl)
  (he:∀ b,Tot (e b) (f b) (t b fun p=>some (e b p)):=by intro b;repeat' first|apply eT|exact eU rfl)
  (hb:fn.body.isSome=true:=by exact rfl) (hn:(fn.name == "runtime.NumGoroutine")=false:=by kernel_rfl):OcOk Tryz.prog xMf g (ftO pv f e):=xhm fun b r hh=>by
 obtain ⟨_,h2⟩:=Prod.mk.inj hh;subst h2;exact xfj (p:=pin) (xhj xLI (xLJ Tryz.prog _) rfl h.fn hf hb hn hl ((hx b).trans (he b)))
theorem lk0 {Inv:IV} {c:Code} (h:xLS c=[]:=by kernel_rfl) (hc:((xLO c).all fun d=>(E.lp (condId d)).isNone)=true:=by kernel_rfl):LoOk Tryz.prog Inv E c:=xfp h hc
theorem lk1 {Inv:IV} {c l:Code} {lp0:Lp} (hok:LoopOk Tryz.prog Inv E.nt l lp0) (h:xLS c=[l]:=by kernel_rfl) (he:E.lp (xLN l)=some lp0:=by kernel_rfl) (hc:((xLO c).all fun d=>(E.lp (condId d)).isNone)=true:=by kernel_rfl):LoOk Tryz.prog Inv E c:=xkR h (lkC hok lkN he) hc
structure EO where
 E:Env
 ok:xLz Tryz.prog xMf E
def EO.w (e:EO) {g:FuncId} {o:List AV->Option (Bool×AV)} (c:OcOk Tryz.prog xMf g o):EO:=⟨e.E.with g o,e.ok.with c⟩
def EO.wM (e:EO) {g:FuncId} {o:List AV->List Box->Option (Bool×AV×List Box)} (c:OmOk Tryz.prog xMf g o):EO:=⟨e.E.withM g o,e.ok.withM c⟩
theorem fnC (h:xLz Tryz.prog xMf E) {g:FuncId} {fn:Func} (hf:Tryz.prog.funcs[g]?=some fn) (nt pin:Nat) (ls:List TypeId) (lp:List (Nat×Lp)) {pv:SPatL β} {t:β->(T:Type)->T->(ρ->T)->T} {e:β->ρ->AV} {d:ρ}
  (hl:HL E nt pin ls lp fn) (hx:FX E nt pin ls lp fn pv t e:=by intro b;kernel_rfl)
  (he:FE t e:=by intro b;repeat' first|apply eB|exact eN|exact eS rfl)
  (hb:fn.body.isSome=true:=by exact rfl) (hn:(fn.name == "runtime.NumGoroutine")=false:=by kernel_rfl):OcOk Tryz.prog xMf g (fnO pv t e d):=xhm fun b r hh=>by
 obtain ⟨h1,h2⟩:=Prod.mk.inj hh;subst h2;exact xfj (p:=pin) (xhj xLI (xLJ Tryz.prog _) rfl h.fn hf hb hn hl ((hx b).trans (he b _ (xbF h1))))
theorem fmC (h:xLz Tryz.prog xMf E) {g:FuncId} {fn:Func} (hf:Tryz.prog.funcs[g]?=some fn) (nt pin:Nat) (ls:List TypeId) (lp:List (Nat×Lp)) {pv:SPatL β} {pb:Pat (List Box) γ} {t:β->γ->(T:Type)->T->(ρ->T)->T} {e:β->γ->ρ->AV×List Box} {d:ρ}
  (hl:HL E nt pin ls lp fn) (hx:MX E nt pin ls lp fn pv pb t e:=by intro b c;kernel_rfl)
  (he:ME t e:=by intro b c;repeat' first|apply eB|exact eN|exact eS rfl)
  (hp:∀ c,(pb.enc c).length=pin:=by exact fun _=>rfl) (hb:fn.body.isSome=true:=by exact rfl) (hn:(fn.name == "runtime.NumGoroutine")=false:=by kernel_rfl):OmOk Tryz.prog xMf g (fmO pv pb t e d):=xnc fun b c r H' hh=>by
 obtain ⟨h1,h2⟩:=Prod.mk.inj hh;exact xhy (p:=pin) (xjw xLI (xLJ Tryz.prog _) rfl h.fn (hp c) hf hb hn hl (((hx b c).trans (he b c _ (xbF h1))).trans (congrArg some h2)))
theorem lpC (h:xLz Tryz.prog xMf E) (nt pin:Nat) (ls:List TypeId) (lp:List (Nat×Lp)) {l:Code} {lv lo:List Nat} {cv:List (Nat×Nat×TypeId)} {pv:Pat (List AV) β} {pb:Pat (List Box) γ} {F:β->γ->(σ->Option (σ⊕ρ))×σ×(ρ->LR)} {d:ρ}
  (hl:LoOk Tryz.prog (xMf.at pin) (E.fn nt pin (lsOf ls) (xLV lp)) l) (G:β->γ->σ->(β×γ)×((σ->Option RT)->(ρ->Option RT)->Option RT))
  (hx:LX E nt pin ls lp l lv lo cv pv pb F G:=by intro b c s;kernel_rfl)
  (he:LE pv pb F G:=by intro b c s;repeat' first|apply eB|exact eN|exact eS rfl)
  (hM:∀ b c,(G b c (F b c).2.1).1=(b,c):=by exact fun _ _=>rfl) (ho:∀ b c r,((F b c).2.2 r).okB=true:=by exact fun _ _ _=>rfl):LoopOk Tryz.prog (xMf.at pin) nt l (lpO lv lo cv pv pb F d):=xJj fun b c r hh=>by
 obtain ⟨h1,h2⟩:=Prod.mk.inj hh;subst h2;have:=xwg xLI (xLJ Tryz.prog _) rfl (h.fn (nt:=nt) (pin:=pin) (ls:=lsOf ls) (lp:=xLV lp)) hl (fun s=>(pv.enc (G b c s).1.1,pb.enc (G b c s).1.2)) (F b c).2.2 (fun p=>LR.okB_ne (ho b c p)) (fun s r hr=>(hx b c s).trans (he b c s r hr)) (xbF (d:=d) h1)
 dsimp only at this;rw [hM b c] at this;exact this
structure LO (pin nt:Nat) (l:Code) where
 lp:Lp
 ok:LoopOk Tryz.prog (xMf.at pin) nt l lp
noncomputable def EO.f (x:EO) {g:FuncId} {fn:Func} (hf:Tryz.prog.funcs[g]?=some fn) (nt pin:Nat) (ls:List TypeId) (lp:List (Nat×Lp))
 (hl:HL x.E nt pin ls lp fn) (pv:SPatL β) (t:β->(T:Type)->T->(ρ->T)->T) (e:β->ρ->AV) (d:ρ) (hx:FX x.E nt pin ls lp fn pv t e:=by intro b;kernel_rfl)
 (he:FE t e:=by intro b;repeat' first|apply eB|exact eN|exact eS rfl)
 (hb:fn.body.isSome=true:=by exact rfl) (hn:(fn.name == "runtime.NumGoroutine")=false:=by kernel_rfl):EO:=x.w (fnC (d:=d) x.ok hf nt pin ls lp hl hx he hb hn)
noncomputable def EO.fM (x:EO) {g:FuncId} {fn:Func} (hf:Tryz.prog.funcs[g]?=some fn) (nt pin:Nat) (ls:List TypeId) (lp:List (Nat×Lp))
 (hl:HL x.E nt pin ls lp fn) (pv:SPatL β) (pb:Pat (List Box) γ) (t:β->γ->(T:Type)->T->(ρ->T)->T) (e:β->γ->ρ->AV×List Box) (d:ρ) (hx:MX x.E nt pin ls lp fn pv pb t e:=by intro b c;kernel_rfl)
 (he:ME t e:=by intro b c;repeat' first|apply eB|exact eN|exact eS rfl)
 (hp:∀ c,(pb.enc c).length=pin:=by exact fun _=>rfl) (hb:fn.body.isSome=true:=by exact rfl) (hn:(fn.name == "runtime.NumGoroutine")=false:=by kernel_rfl):EO:=x.wM (fmC (d:=d) x.ok hf nt pin ls lp hl hx he hp hb hn)
noncomputable def EO.fT (x:EO) {g:FuncId} {fn:Func} (hf:Tryz.prog.funcs[g]?=some fn) (nt pin:Nat) (ls:List TypeId) (lp:List (Nat×Lp))
 (hl:HL x.E nt pin ls lp fn) (t:β->(ρ->Option AV)->Option AV) (pv:SPatL β) (f:β->ρ) (e:β->ρ->AV) (hx:TX x.E nt pin ls lp fn pv t e:=by intro b;kernel_rfl)
 (he:∀ b,Tot (e b) (f b) (t b fun p=>some (e b p)):=by intro b;repeat' first|apply eT|exact eU rfl)
 (hb:fn.body.isSome=true:=by exact rfl) (hn:(fn.name == "runtime.NumGoroutine")=false:=by kernel_rfl):EO:=x.w (ftC x.ok hf nt pin ls lp hl t hx he hb hn)
noncomputable def EO.l (x:EO) (nt pin:Nat) (ls:List TypeId) (lp:List (Nat×Lp)) (fn:Func) (k:Nat) (hl:LoOk Tryz.prog (xMf.at pin) (x.E.fn nt pin (lsOf ls) (xLV lp)) (xLD fn k)) (lv lo:List Nat) (cv:List (Nat×Nat×TypeId)) (pv:Pat (List AV) β) (pb:Pat (List Box) γ) (F:β->γ->(σ->Option (σ⊕ρ))×σ×(ρ->LR)) (d:ρ)
 (G:β->γ->σ->(β×γ)×((σ->Option RT)->(ρ->Option RT)->Option RT))
 (hx:LX x.E nt pin ls lp (xLD fn k) lv lo cv pv pb F G:=by intro b c s;kernel_rfl)
 (he:LE pv pb F G:=by intro b c s;repeat' first|apply eB|exact eN|exact eS rfl)
 (hM:∀ b c,(G b c (F b c).2.1).1=(b,c):=by exact fun _ _=>rfl) (ho:∀ b c r,((F b c).2.2 r).okB=true:=by exact fun _ _ _=>rfl):LO pin nt (xLD fn k):=⟨lpO lv lo cv pv pb F d,lpC x.ok nt pin ls lp hl G hx he hM ho⟩
theorem lks {Inv:IV} {c:Code} {ls:List Code} (hl:∀ l,l∈ls->∀ lp,E.lp (xLN l)=some lp->LoopOk Tryz.prog Inv E.nt l lp) (h:xLS c=ls:=by kernel_rfl) (hc:((xLO c).all fun d=>(E.lp (condId d)).isNone)=true:=by kernel_rfl):LoOk Tryz.prog Inv E c:=xkR h hl hc
end
end
end Go.Sim
end
noncomputable section
namespace Go.Sim
theorem sUF:(∀ {σ ρ:Type} (s:σ),(inL s:Option (σ⊕ρ))=some (.inl s))/\(∀ {σ ρ:Type} (p:ρ),(inR p:Option (σ⊕ρ))=some (.inr p))/\(∀ (l:List AV) (i:Int),ixI l i=(decide ((0:Int)<=i)&&decide (i<(↑l.length:Int))))/\(∀ (l:List AV) (i:Int) (s:Sh) (k:Nat),ixS l i s k=(decide (i.toNat<l.length)&&xLw s ((l.getD i.toNat .top).cells.getD k .top)))/\(∀ (l:List AV) (i:Int) (n:Nat) (ss:List Sh) (k:Nat),ixT l i n ss k=(decide (i.toNat<l.length)&&((l.getD i.toNat .top).cells.length==n&&xLE ss (l.getD i.toNat .top).cells k)))/\(∀ (l:List AV) (i:Int) (k:Nat),gC l i k=(l.getD i.toNat .top).cells.getD k .top)/\(∀ (n:Nat) (l:List AV) (c z:Nat),rmB n l c z=(n==l.length&&(decide ((n+c)*z<=140737488355328)&&decide (n+c<=4611686018427387904)))) :=
 ⟨fun _=>rfl,fun _=>rfl,fun _ _=>rfl,fun _ _ _ _=>rfl,fun _ _ _ _ _=>rfl,fun _ _ _=>rfl,fun _ _ _ _=>rfl⟩
theorem sBU:((∀ {α β:Type} {l:List α} (f:α->β),(l.map f).length=l.length)/\(∀ {T:Type} {a b:T},br true a b=a)/\(∀ {T:Type} {a b:T},br false a b=b)/\(∀ (h:Decidable True),@decide True h=true)/\(∀ (h:Decidable False),@decide False h=false) /\
  (∀ b:Bool,(b&&true)=b)/\(∀ b:Bool,(true&&b)=b)/\((!true)=false)/\((!false)=true)/\(∀ n:Nat,(n:Int).toNat=n)/\(∀ n:Nat,(0:Int)<=(n:Int))/\(∀ {α:Type} {a:α},(some a).isSome=true)/\(∀ {α:Type} {a b:α},(some a).getD b=a) /\
  (∀ {α:Type} [BEq α] [ReflBEq α] (a:α),(a==a)=true)/\(∀ n:Nat,0+n=n)/\(∀ n:Nat,n - 0=n))/\(∀ {σ ρ:Type} (s:σ),(inL s:Option (σ⊕ρ))=some (.inl s))/\(∀ {σ ρ:Type} (p:ρ),(inR p:Option (σ⊕ρ))=some (.inr p))/\(∀ (l:List AV) (i:Int),ixI l i=(decide ((0:Int)<=i)&&decide (i<(↑l.length:Int))))/\(∀ (l:List AV) (i:Int) (s:Sh) (k:Nat),ixS l i s k=(decide (i.toNat<l.length)&&xLw s ((l.getD i.toNat .top).cells.getD k .top)))/\(∀ (l:List AV) (i:Int) (n:Nat) (ss:List Sh) (k:Nat),ixT l i n ss k=(decide (i.toNat<l.length)&&((l.getD i.toNat .top).cells.length==n&&xLE ss (l.getD i.toNat .top).cells k)))/\(∀ (l:List AV) (i:Int) (k:Nat),gC l i k=(l.getD i.toNat .top).cells.getD k .top)/\(∀ (n:Nat) (l:List AV) (c z:Nat),rmB n l c z=(n==l.length&&(decide ((n+c)*z<=140737488355328)&&decide (n+c<=4611686018427387904)))) :=
 ⟨⟨za,rfl,rfl,fun h=>by simp,fun h=>by simp,zS,Bool.true_and,rfl,rfl,zN,Int.natCast_nonneg,rfl,rfl,fun a=>beq_self_eq_true a,zH,Nat.sub_zero⟩,sUF⟩
theorem sOO:(∀ {α:Type} {l:List α},l.drop 0=l)/\(∀ {α:Type} {l:List α} {i:Nat},l.length<=i->l.take i=l)/\(∀ n:Nat,0+n=n)/\(∀ {α β:Type} {l:List α} (f:α->β),(l.map f).length=l.length)/\(∀ n:Nat,n<=n)/\(∀ (h:Decidable True),@decide True h=true)/\(∀ b:Bool,(b&&true)=b)/\(∀ {T:Type} {a b:T},br true a b=a) /\
  (∀ {α:Type} {a:α},(some a).isSome=true)/\(∀ {α:Type} {a b:α},(some a).getD b=a) :=
 ⟨zr,zi,zH,za,zd,fun h=>by simp,zS,rfl,rfl,rfl⟩
end Go.Sim
noncomputable def Go.Sim.M.xJA:Go.Sim.EO:=Go.Sim.EO.mk Go.Sim.M.E0 Go.Sim.M.xGx
end
noncomputable section
set_option maxRecDepth 100000
namespace Go.Sim.M
open Go.IntKind (i64 u64 u8)
open Go.RowKit Go.Proofs
def xeJ {T:Type} (a:List UInt8) (δ:T) (κ:Int×Nat×LA->T):T:=br (decide ((byteAVs a).length*1<=140737488355328)&&decide ((byteAVs a).length<=4611686018427387904)) (κ ((↑a.length:Int),(byteAVs a).length,byteAVs a)) δ
def xcf (a:List UInt8):=xeJ a none some
def xJC:EO:=xJA.fM Tryz.func123 19 1 [] [] lk0 (u2 (sEq (xMt 0 0 0 0)) (sEq pStr)) (q1 (qB 0 2 157 (q1 (xMu (q2 pNilptr pNils))))) (fun (_,a,_) (((_,_,_),_),_) _=>xeJ a) (fun _ _ p=>(AV.tuple [AV.int .i64 p.1,.top],([⟨0,2,157,[AV.agg [AV.own 0 0 0 0,AV.osl 1 0 0 p.2.1]],false,false⟩,bF 0 1 5 p.2.2]:List Box))) (0,0,[])
def xes {T:Type} (a:List UInt8) (n:Nat) (b:LA) (δ:T) (κ:Int×Nat×LA->T):T:=br (n==b.length&&(decide ((n+(byteAVs a).length)*1<=140737488355328)&&decide (n+(byteAVs a).length<=4611686018427387904))) (κ ((↑a.length:Int),n+(byteAVs a).length,b++byteAVs a)) δ
def xbv (a:List UInt8) (n:Nat) (b:LA):=xes a n b none some
def xJD:EO:=xJC.fM Tryz.func123 19 2 [] [] lk0 (u2 (sEq (xMt 0 0 0 0)) (sEq pStr)) (q2 (xMv 0 2 157 false false (q1 (xMu (q2 (xMt 0 0 0 0) (xMs 1 0 0))))) (qB 0 1 5 xMk)) (fun (_,a,_) (((_,n,_),_),b,_) _=>xes a n b) (fun _ _ p=>(AV.tuple [AV.int .i64 p.1,.top],([⟨0,2,157,[AV.agg [AV.own 0 0 0 0,AV.osl 1 1 0 p.2.1]],false,false⟩,bF 1 1 5 p.2.2]:List Box))) (0,0,[])
def xm7 {T:Type} (a:List UInt8) (n:Nat) (b:LA) (δ:T) (κ:Int×Nat×LA->T):T:=br (n==b.length&&(decide ((n+(byteAVs a).length)*1<=140737488355328)&&decide (n+(byteAVs a).length<=4611686018427387904))) (κ ((↑a.length:Int),n+(byteAVs a).length,b++byteAVs a)) δ
def xCK:EO:=xJD.fM Tryz.func123 19 2 [] [] lk0 (u2 (sEq (xMt 0 0 0 0)) (sEq pStr)) (q2 (xMv 0 2 157 false false (q1 (xMu (q2 (xMt 0 0 0 0) (xMs 1 1 0))))) (qB 1 1 5 xMk)) (fun (_,a,_) (((_,n,_),_),b,_) _=>xm7 a n b) (fun _ _ p=>(AV.tuple [AV.int .i64 p.1,.top],([⟨0,2,157,[AV.agg [AV.own 0 0 0 0,AV.osl 1 2 0 p.2.1]],false,false⟩,bF 2 1 5 p.2.2]:List Box))) (0,0,[])
def xbu:Env:=xCK.E.fn 17 1 (lsOf []) (xLV [])
theorem xl8:xLz P0 (xMf.at 1) xbu:=xCK.ok.fn
theorem xlk:LoOk P0 (xMf.at xbu.pin) xbu (Tryz.f125.body.getD .skip):=xfp (by kernel_rfl)
def xfN (c:Int):Int:=((c))
def xhg (c:Int):Bool:=true
def xim {T:Type} (c:Int) (δ:T) (κ:Int->T):T:=κ (c)
theorem xoH (c:Int):Pre (xhg c) (XFM P0 xbu Tryz.f125 (Tryz.f125.body.getD .skip) [AV.own (0:Id) 0 0 0,AV.int .u8 c] [{ ver:=0,sz:=2,ty:=(157:TypeId),xs:=[AV.agg [AV.nilptr,AV.nils]],frz:=false,pm:=true }]) ((.top,([⟨0,2,157,[AV.agg [AV.own 0 0 0 0,AV.osl 1 0 0 1]],false,false⟩,⟨0,1,5,[AV.int .u8 (xfN c)],false,true⟩]:List Box))):=by
 have h:XFM P0 xbu Tryz.f125 (Tryz.f125.body.getD .skip) [AV.own (0:Id) 0 0 0,AV.int .u8 c] [{ ver:=0,sz:=2,ty:=(157:TypeId),xs:=[AV.agg [AV.nilptr,AV.nils]],frz:=false,pm:=true }]=xim c none (fun (p:Int)=>some (((.top,([⟨0,2,157,[AV.agg [AV.own 0 0 0 0,AV.osl 1 0 0 1]],false,false⟩,⟨0,1,5,[AV.int .u8 p],false,true⟩]:List Box))):(AV×List Box))):=by kernel_rfl
 rw [h];unfold xfN xhg xim;repeat' (first|exact Pre.none|exact Pre.tt rfl|exact Pre.some rfl|refine Pre.l ?_|refine Pre.r ?_|refine Pre.br (f:=fun (p:Int)=>(((.top,([⟨0,2,157,[AV.agg [AV.own 0 0 0 0,AV.osl 1 0 0 1]],false,false⟩,⟨0,1,5,[AV.int .u8 p],false,true⟩]:List Box))):(AV×List Box))) ?_ ?_|refine Pre.brt (f:=fun (p:Int)=>(((.top,([⟨0,2,157,[AV.agg [AV.own 0 0 0 0,AV.osl 1 0 0 1]],false,false⟩,⟨0,1,5,[AV.int .u8 p],false,true⟩]:List Box))):(AV×List Box))) ?_ ?_)
def xoG:LA->List Box->Option (Bool×AV×List Box):=omOf (xMh (sEq (xMt 0 0 0 0)) (xMh (sEq (pInt .u8)) xMj)) (xMg (xMv 0 2 (157:TypeId) false true (xMg (xMu (xMg pNilptr (xMg pNils xMi))) xMi)) xMi) fun (_,(c,_)) (((_,(_,_)),_),_)=>(true,((.top,([⟨0,2,157,[AV.agg [AV.own 0 0 0 0,AV.osl 1 0 0 1]],false,false⟩,⟨0,1,5,[AV.int .u8 (xfN c)],false,true⟩]:List Box))))
theorem xoF:OmOk P0 xMf 125 (xoG):=xnc fun b d h f e=>by
 obtain ⟨_,⟨c,_⟩⟩:=b;obtain ⟨⟨⟨_,⟨_,_⟩⟩,_⟩,_⟩:=d;obtain ⟨g,a⟩:=Prod.mk.inj e;refine xhy (p:=xbu.pin) (xjw xLI (xLJ P0 _) rfl xl8 rfl Tryz.func125 rfl (by kernel_rfl) xlk ((Pre.get (xoH _) rfl).trans ?_))
 exact congrArg some a
def xJE:EO:=xCK.wM xoF
def xh6 {T:Type} (c:Int) (n:Nat) (a:LA) (δ:T) (κ:Nat×LA->T):T:=br (rmB n a 1 1) (κ (n+1,a++[AV.int .u8 c])) δ
def xjv (c:Int) (n:Nat) (a:LA):=xh6 c n a none some
def xJF:EO:=xJE.fM Tryz.func125 17 2 [] [] lk0 (u2 (sEq (xMt 0 0 0 0)) (sEq (pInt .u8))) (q2 (xMv 0 2 157 false false (q1 (xMu (q2 (xMt 0 0 0 0) (xMs 1 0 0))))) (qB 0 1 5 xMk)) (fun (_,c,_) (((_,n,_),_),a,_) _=>xh6 c n a) (fun _ _ p=>(.top,([⟨0,2,157,[AV.agg [AV.own 0 0 0 0,AV.osl 1 1 0 p.1]],false,false⟩,bF 1 1 5 p.2]:List Box))) (0,[])
def xeX {T:Type} (c:Int) (n:Nat) (a:LA) (δ:T) (κ:Nat×LA->T):T:=br (rmB n a 1 1) (κ (n+1,a++[AV.int .u8 c])) δ
def xfB (c:Int) (n:Nat) (a:LA):=xeX c n a none some
def xJG:EO:=xJF.fM Tryz.func125 17 2 [] [] lk0 (u2 (sEq (xMt 0 0 0 0)) (sEq (pInt .u8))) (q2 (xMv 0 2 157 false false (q1 (xMu (q2 (xMt 0 0 0 0) (xMs 1 1 0))))) (qB 1 1 5 xMk)) (fun (_,c,_) (((_,n,_),_),a,_) _=>xeX c n a) (fun _ _ p=>(.top,([⟨0,2,157,[AV.agg [AV.own 0 0 0 0,AV.osl 1 2 0 p.1]],false,false⟩,bF 2 1 5 p.2]:List Box))) (0,[])
def xbb (a b:Int):Bool:=(br (decide (a>=0)) (br (decide (a<b)) ((decide (b<=1099511627776))) ((false))) ((false)))
def xyf {T:Type} (a b:Int) (δ:T) (κ:Bool->T):T:=br (decide (a>=0)) (br (decide (a<b)) (κ (decide (b<=1099511627776))) (κ (false))) (κ (false))
def xCL:EO:=xJG.fT Tryz.func72 18 0 [] [] lk0 (fun ((a,b,_),_)=>xyf a b none) (u1 (xMy (u2 uI uI))) (fun ((a,b,_),_)=>xbb a b) (fun _ p=>(AV.bool p))
def xfF (b:Int) (a:LA):=((a.getD (0+b.toNat) .top).cells.getD 0 .top).toInt
def xkL (d:Int) (c:Nat) (b a:LA):=((xbv (Lib.itoa (xfF d b)) c a).getD (0,0,[])).snd
def xkK (d:Int) (c:Nat) (b a:LA):=xfB 32 (xkL d c b a).fst (xkL d c b a).snd
def xkJ (d:Int) (c:Nat) (b a:LA):=(xkK d c b a).getD (0,[])
def xio {T:Type} (k:LA) (l j:Int) (e:Nat) (i c:Int) (d:Nat) (f g:Int) (h:List UInt8) (a b:LA) (δ:T) (κl:(Int×Nat×Int×Int×List UInt8×LA×LA)->T) (κr:(Nat×Int×Int×List UInt8×LA)->T):T:=br (decide (c<i)) (br (decide (0<=c)&&decide (c<(↑e:Int))) (br (decide (0+c.toNat<a.length)&&xLw (Sh.int .i64) ((a.getD (0+c.toNat) .top).cells.getD 0 .top)) (br (decide ((-9223372036854775808)<=xfF c a)&&decide (xfF c a<=9223372036854775807)) (br ((xbv (Lib.itoa (xfF c a)) d b).isSome) (br ((xkK c d a b).isSome) (κl (i64.wrap (c+1),(xkJ c d a b).fst,f,g,h,a,(xkJ c d a b).snd)) δ) δ) δ) δ) δ) (κr (d,f,g,h,b))
def xbB (k:LA) (l e:Int) (c:Nat) (f:Int):StT (Int×Nat×Int×Int×List UInt8×LA×LA) (Nat×Int×Int×List UInt8×LA):=fun (g,d,h,i,j,b,a)=>xio k l e c f g d h i j b a none inL inR
def xhr:=xCL.l 37 0 [] [] Tryz.f109 1 lk0 [3,5,8,9,10,21,22,23] [3,5,8,9,10] [] (q8 (xMt 0 0 0 0) (xMt 1 0 0 0) (qL 3) qI qI (xMs 2 0 0) qI qI) (q4 (xMv 0 2 157 false false (q1 (xMu (q2 (xMt 0 0 0 0) (xMs 3 0 0))))) (qB 0 3 90 (q1 (xMu (q3 qI qI pStr)))) (qB 0 1 3 xMk) (qB 0 1 5 xMk)) (fun (_,_,k,m,e,c,f,g,_) (((_,d,_),_),((h,i,j,_),_),b,a,_)=>(xbB k m e c f,(g,d,h,i,j,b,a),fun p=>(.leaf (.exit 2) [AV.own 0 0 0 0,AV.own 1 0 0 0,AV.list 3 k,AV.int .i64 m,AV.int .i64 e] [⟨0,2,157,[AV.agg [AV.own 0 0 0 0,AV.osl 2 0 0 p.1]],false,false⟩,bF 0 3 90 [AV.agg [AV.int .i64 p.2.1,AV.int .i64 p.2.2.1,AV.str p.2.2.2.1]],bF 0 1 5 p.2.2.2.2]))) (0,0,0,[],[]) fun (_,_,k,m,e,c,f,_,_) _ (g,d,h,i,j,b,a)=>((((),(),k,m,e,c,f,g,()),((((),d,()),()),((h,i,j,()),()),b,a,())),xio k m e c f g d h i j b a none)
def xkI (b:LA) (e a:Int) (d:Nat) (c:LA):=Iter (xbB b e a 3 3) (0,d,(gC b a 0).toInt,(gC b a 1).toInt,(gC b a 2).toStr,[AV.int .i64 (gC b a 0).toInt,AV.int .i64 (gC b a 1).toInt,AV.int .i64 (↑(gC b a 2).toStr.length:Int)],c)
def xkH (d:LA) (e c:Int) (b:Nat) (a:LA):=(xkI d e c b a).getD (0,0,0,[],[])
def xkG (d:LA) (e c:Int) (b:Nat) (a:LA):=(xkH d e c b a).snd.snd.snd
def xkF (d:LA) (e c:Int) (b:Nat) (a:LA):=xbv (xkG d e c b a).fst (xkH d e c b a).fst (xkG d e c b a).snd
def xkE (d:LA) (e c:Int) (b:Nat) (a:LA):=((xkF d e c b a).getD (0,0,[])).snd
def xin {T:Type} (d:LA) (e b:Int) (c:Nat) (a:LA) (δ:T) (κl:(Int×Nat×LA)->T) (κr:(Nat×LA)->T):T:=br (decide (b<e)) (br (ixI d b) (br (ixT d b 3 [Sh.int .i64,Sh.int .i64,Sh.str] 0) (br ((xkI d e b c a).isSome) (br ((xkF d e b c a).isSome) (κl (i64.wrap (b+1),(xkE d e b c a).fst,(xkE d e b c a).snd)) δ) δ) δ) δ) (κr (c,a))
def xdy (d:LA) (e:Int):StT (Int×Nat×LA) (Nat×LA):=fun (c,b,a)=>xin d e c b a none inL inR
def xpD:=xCL.l 37 0 [] [(6,xhr.lp)] Tryz.f109 0 (lk1 xhr.ok) [3,8,9,10] [3] [] (q4 (xMt 0 0 0 0) (qL 3) qI qI) (q2 (xMv 0 2 157 false false (q1 (xMu (q2 (xMt 0 0 0 0) (xMs 1 0 0))))) (qB 0 1 5 xMk)) (fun (_,d,e,c,_) (((_,b,_),_),a,_)=>(xdy d e,(c,b,a),fun p=>(.leaf (.exit 0) [AV.own 0 0 0 0] [⟨0,2,157,[AV.agg [AV.own 0 0 0 0,AV.osl 1 0 0 p.1]],false,false⟩,bF 0 1 5 p.2]))) (0,[]) fun (_,d,e,_,_) _ (c,b,a)=>((((),d,e,c,()),((((),b,()),()),a,())),xin d e c b a none)
def xdf (a:LA):=((a.getD 0 .top).cells.getD 0 .top).toInt
def xnA (a:LA):=xjv 32 ((xcf (Lib.itoa (xdf a))).getD (0,0,[])).snd.fst ((xcf (Lib.itoa (xdf a))).getD (0,0,[])).snd.snd
def xnz (a:LA):=(xnA a).getD (0,[])
def xny (a:LA):=Iter (xbB a (↑a.length:Int) 0 3 3) (1,(xnz a).fst,xdf a,((a.getD 0 .top).cells.getD 1 .top).toInt,((a.getD 0 .top).cells.getD 2 .top).toStr,[AV.int .i64 (xdf a),AV.int .i64 ((a.getD 0 .top).cells.getD 1 .top).toInt,AV.int .i64 (↑((a.getD 0 .top).cells.getD 2 .top).toStr.length:Int)],(xnz a).snd)
def xnw (a:LA):=(xny a).getD (0,0,0,[],[])
def xnv (a:LA):=(xnw a).snd.snd.snd
def xnu (a:LA):=xbv (xnv a).fst (xnw a).fst (xnv a).snd
def xnt (a:LA):=((xnu a).getD (0,0,[])).snd
def xns (a:LA):=Iter (xdy a (↑a.length:Int)) (1,(xnt a).fst,(xnt a).snd)
def xnr (a:LA):=(xns a).getD (0,[])
def xhs (a:LA):=(xnr a).snd
def xoP {T:Type} (a:LA) (δ:T) (κ:List UInt8->T):T:=br (decide (0<(↑a.length:Int))) (br (decide (0<(↑a.length:Int))) (br (decide (0<a.length)&&((a.getD 0 .top).cells.length==3&&xLE [Sh.int .i64,Sh.int .i64,Sh.str] (a.getD 0 .top).cells 0)) (br (decide ((-9223372036854775808)<=xdf a)&&decide (xdf a<=9223372036854775807)) (br ((xcf (Lib.itoa (xdf a))).isSome) (br ((xnA a).isSome) (br ((xny a).isSome) (br ((xnu a).isSome) (br ((xns a).isSome) (br (decide ((xnr a).fst=(xhs a).length)&&isBytes (xhs a)&&decide ((xhs a).length≠0)) (κ (strOf (xhs a))) δ) δ) δ) δ) δ) δ) δ) δ) δ) (κ ([]))
def xkD (a:LA):=xoP a none some
def xJH:EO:=xCL.f Tryz.func109 37 0 [] [(6,xhr.lp),(3,xpD.lp)] (lks (lkC xpD.ok (lkC xhr.ok lkN))) (u1 (uL 3)) (fun (a,_) _=>xoP a) (fun _ p=>AV.str p) []
def xeu (x:Int):Bool:=((x != x))
def xBl {T:Type} (x:Int) (δ:T) (κ:Bool->T):T:=κ (x != x)
def xJI:EO:=xJH.fT Tryz.func77 6 0 [] [] lk0 (fun (x,_)=>xBl x none) (u1 uI) (fun (x,_)=>xeu x) (fun _ p=>(AV.bool p))
def xa3 (x y:Int):Int:=(br (xeu x) (br (xeu y) ((0)) (((-1)))) (br (xeu y) ((1)) (br (decide (x<y)) (((-1))) (br (decide (x>y)) ((1)) ((0))))))
def xzd {T:Type} (x y:Int) (δ:T) (κ:Int->T):T:=br (xeu x) (br (xeu y) (κ (0)) (κ ((-1)))) (br (xeu y) (κ (1)) (br (decide (x<y)) (κ ((-1))) (br (decide (x>y)) (κ (1)) (κ (0)))))
def xCM:EO:=xJI.fT Tryz.func51 20 0 [] [] lk0 (fun (x,y,_)=>xzd x y none) (u2 uI uI) (fun (x,y,_)=>xa3 x y) (fun _ p=>(AV.int .i64 p))
def xkA:Env:=xCM.E.fn 18 0 (lsOf []) (xLV [])
theorem xz2:xLz P0 (xMf.at 0) xkA:=xCM.ok.fn
theorem xw4:LoOk P0 (xMf.at xkA.pin) xkA (Tryz.f73.body.getD .skip):=xkR (ls:=[xLD Tryz.f73 0]) (by kernel_rfl) (fun l a lp b=>by
 simp only [zC,List.not_mem_nil,or_false] at a;rcases a with rfl
 . rw [show xkA.lp (xLN (xLD Tryz.f73 0))=none by kernel_rfl] at b
   simp at b)
def xlZ (a b c:Int):Int:=(br (a != 0) ((a)) (br (b != 0) ((b)) (br (c != 0) ((c)) ((0)))))
def xvZ (a b c:Int):Bool:=true
def xz3 {T:Type} (a b c:Int) (δ:T) (κ:Int->T):T:=br (a != 0) (κ (a)) (br (b != 0) (κ (b)) (br (c != 0) (κ (c)) (κ (0))))
theorem xF2 (a b c:Int):Pre (xvZ a b c) (XF P0 xkA Tryz.f73 (Tryz.f73.body.getD .skip) [AV.list 1 [AV.int .i64 a,AV.int .i64 b,AV.int .i64 c]]) (AV.int .i64 (xlZ a b c)):=by
 have h:XF P0 xkA Tryz.f73 (Tryz.f73.body.getD .skip) [AV.list 1 [AV.int .i64 a,AV.int .i64 b,AV.int .i64 c]]=xz3 a b c none (fun (p:Int)=>some ((AV.int .i64 p):AV)):=by kernel_rfl
 rw [h];unfold xlZ xvZ xz3;repeat' (first|exact Pre.none|exact Pre.tt rfl|exact Pre.some rfl|refine Pre.l ?_|refine Pre.r ?_|refine Pre.br (f:=fun (p:Int)=>((AV.int .i64 p):AV)) ?_ ?_|refine Pre.brt (f:=fun (p:Int)=>((AV.int .i64 p):AV)) ?_ ?_)
def xF1:LA->Option (Bool×AV):=ocOf (xMh (xMw 1 (xMg (pInt .i64) (xMg (pInt .i64) (xMg (pInt .i64) xMi)))) xMj) fun ((a,(b,(c,_))),_)=>(true,(AV.int .i64 (xlZ a b c)))
theorem xF0:OcOk P0 xMf 73 (xF1):=xhm fun e h f=>by
 obtain ⟨⟨a,⟨b,⟨c,_⟩⟩⟩,_⟩:=e;obtain ⟨g,d⟩:=Prod.mk.inj f;refine xfj (p:=xkA.pin) (xhj xLI (xLJ P0 _) rfl xz2 Tryz.func73 rfl (by kernel_rfl) xw4 ((Pre.get (xF2 _ _ _) rfl).trans ?_))
 exact congrArg some d
def xJJ:EO:=xCM.w xF0
def xbG (a b:Int) (c:List UInt8) (d e:Int) (f:List UInt8):Int:=((xlZ (xa3 a d) (xa3 b e) (Lib.compareBytes c f)))
def xwS {T:Type} (a b:Int) (c:List UInt8) (d e:Int) (f:List UInt8) (δ:T) (κ:Int->T):T:=κ (xlZ (xa3 a d) (xa3 b e) (Lib.compareBytes c f))
def xG1:EO:=xJJ.fT Tryz.func94 22 0 [] [] lk0 (fun ((a,b,c,_),(d,e,f,_),_)=>xwS a b c d e f none) (u2 (xMy (u3 uI uI (sEq pStr))) (xMy (u3 uI uI (sEq pStr)))) (fun ((a,b,c,_),(d,e,f,_),_)=>xbG a b c d e f) (fun _ p=>(AV.int .i64 p))
def xcp (c b:LA) (a:Int):=xbG (gC b a 0).toInt (gC b a 1).toInt (gC b a 2).toStr (gC c a 0).toInt (gC c a 1).toInt (gC c a 2).toStr
def xcz {T:Type} (e c b:LA) (d a:Int) (δ:T) (κl:(Int)->T) (κr:(Bool×(Int)×(Unit))->T):T:=br (decide (a<d)) (br (ixI b a) (br (ixT b a 3 [Sh.int .i64,Sh.int .i64,Sh.str] 0) (br (decide (a>=c.length)) (κr (true,(1),())) (br (ixI c a) (br (ixT c a 3 [Sh.int .i64,Sh.int .i64,Sh.str] 0) (br (xcp c b a != 0) (κr (true,(xcp c b a),())) (κl (i64.wrap (a+1)))) δ) δ)) δ) δ) (κr (false,0,()))
def xa5 (d e a:LA) (b:Int):StT (Int) (Bool×(Int)×(Unit)):=fun (c)=>xcz d e a b c none inL inR
def xla:=xG1.l 39 0 [] [] Tryz.f93 0 lk0 [0,1,2,11,12,13] [0,1,6] [] (q6 (qL 3) (qL 3) (xLW 94 xMi) (qL 3) qI qI) xMi (fun (d,e,_,a,b,c,_) _=>(xa5 d e a b,(c),fun p=>(.node p.1 (.leaf .ret [AV.list 3 d,AV.list 3 e,AV.int .i64 p.2.1] []) (.leaf (.exit 0) [AV.list 3 d,AV.list 3 e,.top] [])))) (false,0,()) fun (d,e,_,a,b,_,_) _ (c)=>(((d,e,(),a,b,c,()),()),xcz d e a b c none)
def xjX {T:Type} (a b:LA) (δ:T) (κ:Int->T):T:=br ((Iter (xa5 a b a (↑a.length:Int)) 0).isSome) (br (((Iter (xa5 a b a (↑a.length:Int)) 0).getD (false,0,())).fst) (κ (((Iter (xa5 a b a (↑a.length:Int)) 0).getD (false,0,())).snd.fst)) (br (decide ((↑a.length:Int)<(↑b.length:Int))) (κ ((-1))) (κ (0)))) δ
def xk9 (a b:LA):=xjX a b none some
def xJK:EO:=xG1.f Tryz.func93 39 0 [] [(2,xla.lp)] (lk1 xla.ok) (u3 (uL 3) (uL 3) (sEq (xLW (94:FuncId) xMi))) (fun (a,b,_,_) _=>xjX a b) (fun _ p=>AV.int .i64 p) 0
def xoD {T:Type} (a b:LA) (δ:T) (κ:Int->T):T:=br ((xk9 a b).isSome) (κ ((xk9 a b).getD 0)) δ
def xhq (a b:LA):=xoD a b none some
def xJL:EO:=xJK.f Tryz.func75 8 0 [] [] lk0 (u2 (uL 3) (uL 3)) (fun (a,b,_) _=>xoD a b) (fun _ p=>AV.int .i64 p) 0
def xmy {T:Type} (a c b d:LA) (δ:T) (κ:Int->T):T:=br ((xhq a b).isSome) (κ ((xhq a b).getD 0)) δ
def xdz (c a d b:LA):=xmy c a d b none some
def xCN:EO:=xJL.f Tryz.func111 10 0 [] [] lk0 (u2 (xMy (u2 (uL 3) (uL 2))) (xMy (u2 (uL 3) (uL 2)))) (fun ((c,a,_),(d,b,_),_) _=>xmy c a d b) (fun _ p=>AV.int .i64 p) 0
def xdH (a:Nat) (j:Int):=decide (0<=i64.wrap (j - 1))&&decide (i64.wrap (j - 1)<(↑a:Int))
def xcc (j:Int):Nat:=0+(i64.wrap (j - 1)).toNat
def xdI (a:Nat) (j:Int):=decide (0<=j)&&decide (j<(↑a:Int))
def xf3 (j:Int) (a:LA):=decide (0+j.toNat<a.length)
def xf1 (j:Int) (a:LA):=xf3 j a&&((a.getD (0+j.toNat) .top).cells.length==2&&xLE [Sh.list 3,Sh.list 2] (a.getD (0+j.toNat) .top).cells 0)
def xa9 (j:Int) (a:LA):=(a.getD (xcc j) .top).cells
def xfx (j:Int) (a:LA):=decide (xcc j<a.length)&&((xa9 j a).length==2&&xLE [Sh.list 3,Sh.list 2] (xa9 j a) 0)
def xf0 (j:Int) (a:LA):=xdz ((a.getD (0+j.toNat) .top).cells.getD 0 .top).toList ((a.getD (0+j.toNat) .top).cells.getD 1 .top).toList ((xa9 j a).getD 0 .top).toList ((xa9 j a).getD 1 .top).toList
def xf2 (j:Int) (a:LA):=a.set (0+j.toNat) (AV.agg [AV.list 3 ((xa9 j a).getD 0 .top).toList,AV.list 2 ((xa9 j a).getD 1 .top).toList])
def xgk {T:Type} (d:Nat) (a b i j:Int) (c:LA) (δ:T) (κl:(Int×LA)->T) (κr:(LA)->T):T:=br (decide (j>a)) (br (xdI d j) (br (xf1 j c) (br (xdH d j) (br (xfx j c) (br ((xf0 j c).isSome) (br (decide ((xf0 j c).getD 0<0)) (br (xdH d j) (br (xfx j c) (br (xdI d j) (br (xf1 j c) (br (xdI d j) (br (xf3 j c) (br (xdH d j) (br (decide (xcc j<(xf2 j c).length)) (κl (i64.wrap (j - 1),(xf2 j c).set (xcc j) (AV.agg [AV.list 3 ((c.getD (0+j.toNat) .top).cells.getD 0 .top).toList,AV.list 2 ((c.getD (0+j.toNat) .top).cells.getD 1 .top).toList]))) δ) δ) δ) δ) δ) δ) δ) δ) (κr (c))) δ) δ) δ) δ) δ) (κr (c))
def xbT (d:Nat) (a b i:Int):StT (Int×LA) (LA):=fun (j,c)=>xgk d a b i j c none inL inR
def xcb:=xCN.l 53 1 [124] [] Tryz.f144 1 lk0 [0,1,2,3,8,9] [0,1,2,3,8] [] (q6 (xMs 0 0 0) qI qI (xLW 111 xMi) qI qI) (q1 (qB 0 2 124 xMk)) (fun (c,a,b,_,i,j,_) (d,_)=>(xbT c a b i,(j,d),fun p=>(.leaf (.exit 2) [AV.osl 0 0 0 c,AV.int .i64 a,AV.int .i64 b,AV.func 111 [],AV.int .i64 i] [bF 0 2 124 p]))) [] fun (c,a,b,_,i,_,_) _ (j,d)=>(((c,a,b,(),i,j,()),(d,())),xgk c a b i j d none)
def xgj {T:Type} (d:Nat) (a b i:Int) (c:LA) (δ:T) (κl:(Int×LA)->T) (κr:(LA)->T):T:=br (decide (i<b)) (br ((Iter (xbT d a b i) (i,c)).isSome) (κl (i64.wrap (i+1),(Iter (xbT d a b i) (i,c)).getD [])) δ) (κr (c))
def xbS (d:Nat) (a b:Int):StT (Int×LA) (LA):=fun (i,c)=>xgj d a b i c none inL inR
def xfZ:=xCN.l 53 1 [124] [(4,xcb.lp)] Tryz.f144 0 (lk1 xcb.ok) [0,1,2,3,8] [] [] (q5 (xMs 0 0 0) qI qI (xLW 111 xMi) qI) (q1 (qB 0 2 124 xMk)) (fun (d,a,b,_,i,_) (c,_)=>(xbS d a b,(i,c),fun p=>(.leaf (.exit 0) [] [bF 0 2 124 p]))) [] fun (d,a,b,_,_,_) _ (i,c)=>(((d,a,b,(),i,()),(c,())),xgj d a b i c none)
def xeH {T:Type} (n:Nat) (a b:Int) (c:LA) (δ:T) (κ:LA->T):T:=br ((Iter (xbS n a b) (i64.wrap (a+1),c)).isSome) (κ ((Iter (xbS n a b) (i64.wrap (a+1),c)).getD [])) δ
def xby (n:Nat) (a b:Int) (c:LA):=xeH n a b c none some
def xG2:EO:=xCN.fM Tryz.func144 53 1 [124] [(4,xcb.lp),(1,xfZ.lp)] (lks (lkC xfZ.ok (lkC xcb.ok lkN))) (u4 (sEq (xMs 0 0 0)) uI uI (sEq (xLW (111:FuncId) xMi))) (q1 (qB 0 2 124 xMk)) (fun (n,a,b,_,_) (c,_) _=>xeH n a b c) (fun _ _ p=>(AV.tuple [],([bF 0 2 124 p]:List Box))) []
def xhd (a i:Int) (b:LA):=decide (0+(i64.wrap (a+i)).toNat<b.length)
def xcM (a i:Int) (b:LA):=(b.getD (0+(i64.wrap (a+i)).toNat) .top).cells
def xhe (a:Nat) (b i:Int):=decide (0<=i64.wrap (b+i))&&decide (i64.wrap (b+i)<(↑a:Int))
def xhf (b:Nat) (a i:Int):=decide (0<=i64.wrap (a+i))&&decide (i64.wrap (a+i)<(↑b:Int))
def xcO (b i:Int):Nat:=0+(i64.wrap (b+i)).toNat
def xcN (b i:Int) (a:LA):=(a.getD (xcO b i) .top).cells
def xhc (a b i:Int) (c:LA):=c.set (0+(i64.wrap (a+i)).toNat) (AV.agg [AV.list 3 ((xcN b i c).getD 0 .top).toList,AV.list 2 ((xcN b i c).getD 1 .top).toList])
def xhT {T:Type} (d:Nat) (a b n i:Int) (c:LA) (δ:T) (κl:(Int×LA)->T) (κr:(LA)->T):T:=br (decide (i<n)) (br (xhe d b i) (br (decide (xcO b i<c.length)&&((xcN b i c).length==2&&xLE [Sh.list 3,Sh.list 2] (xcN b i c) 0)) (br (xhf d a i) (br (xhd a i c&&((xcM a i c).length==2&&xLE [Sh.list 3,Sh.list 2] (xcM a i c) 0)) (br (xhf d a i) (br (xhd a i c) (br (xhe d b i) (br (decide (xcO b i<(xhc a b i c).length)) (κl (i64.wrap (i+1),(xhc a b i c).set (xcO b i) (AV.agg [AV.list 3 ((xcM a i c).getD 0 .top).toList,AV.list 2 ((xcM a i c).getD 1 .top).toList]))) δ) δ) δ) δ) δ) δ) δ) δ) (κr (c))
def xcs (d:Nat) (a b n:Int):StT (Int×LA) (LA):=fun (i,c)=>xhT d a b n i c none inL inR
def xhb:=xG2.l 38 1 [124] [] Tryz.f173 0 lk0 [0,1,2,3,10] [] [] (q5 (xMs 0 0 0) qI qI qI qI) (q1 (qB 0 2 124 xMk)) (fun (d,a,b,n,i,_) (c,_)=>(xcs d a b n,(i,c),fun p=>(.leaf (.exit 0) [] [bF 0 2 124 p]))) [] fun (d,a,b,n,_,_) _ (i,c)=>(((d,a,b,n,i,()),(c,())),xhT d a b n i c none)
def xfM {T:Type} (n:Nat) (a b k:Int) (c:LA) (δ:T) (κ:LA->T):T:=br ((Iter (xcs n a b k) (0,c)).isSome) (κ ((Iter (xcs n a b k) (0,c)).getD [])) δ
def xbi (n:Nat) (a b k:Int) (c:LA):=xfM n a b k c none some
def xG3:EO:=xG2.fM Tryz.func173 38 1 [124] [(1,xhb.lp)] (lk1 xhb.ok) (u5 (sEq (xMs 0 0 0)) uI uI uI (sEq (xLW (111:FuncId) xMi))) (q1 (qB 0 2 124 xMk)) (fun (n,a,b,k,_,_) (c,_) _=>xfM n a b k c) (fun _ _ p=>(AV.tuple [],([bF 0 2 124 p]:List Box))) []
def xjz {T:Type} (b:Nat) (m i j:Int) (a:LA) (δ:T) (κl:(Int×Int×LA)->T) (κr:(Int×LA)->T):T:=br (i != j) (br (decide (i>j)) (br ((xbi b (i64.wrap (m - i)) m j a).isSome) (κl (i64.wrap (i - j),j,(xbi b (i64.wrap (m - i)) m j a).getD [])) δ) (br ((xbi b (i64.wrap (m - i)) (i64.wrap (i64.wrap (m+j) - i)) i a).isSome) (κl (i,i64.wrap (j - i),(xbi b (i64.wrap (m - i)) (i64.wrap (i64.wrap (m+j) - i)) i a).getD [])) δ)) (κr (i,a))
def xeU (b:Nat) (m:Int):StT (Int×Int×LA) (Int×LA):=fun (i,j,a)=>xjz b m i j a none inL inR
def xjb:=xG3.l 58 1 [124] [] Tryz.f163 0 lk0 [0,2,4,10,11] [0,2,4,10] [] (q5 (xMs 0 0 0) qI (xLW 111 xMi) qI qI) (q1 (qB 0 2 124 xMk)) (fun (a,m,_,i,j,_) (b,_)=>(xeU a m,(i,j,b),fun p=>(.leaf (.exit 0) [AV.osl 0 0 0 a,AV.int .i64 m,AV.func 111 [],AV.int .i64 p.1] [bF 0 2 124 p.2]))) (0,[]) fun (a,m,_,_,_,_) _ (i,j,b)=>(((a,m,(),i,j,()),(b,())),xjz a m i j b none)
def xgC (n:Nat) (a m b:Int) (c:LA):=Iter (xeU n m) (i64.wrap (m - a),i64.wrap (b - m),c)
def xgB (n:Nat) (a m b:Int) (c:LA):=(xgC n a m b c).getD (0,[])
def xgA (n:Nat) (a m b:Int) (c:LA):=(xgB n a m b c).fst
def xgz (n:Nat) (a m b:Int) (c:LA):=xbi n (i64.wrap (m - xgA n a m b c)) m (xgA n a m b c) (xgB n a m b c).snd
def xg1 {T:Type} (n:Nat) (a m b:Int) (c:LA) (δ:T) (κ:LA->T):T:=br ((xgC n a m b c).isSome) (br ((xgz n a m b c).isSome) (κ ((xgz n a m b c).getD [])) δ) δ
def xca (n:Nat) (a m b:Int) (c:LA):=xg1 n a m b c none some
def xqE:EO:=xG3.fM Tryz.func163 58 1 [124] [(2,xjb.lp)] (lk1 xjb.ok) (u5 (sEq (xMs 0 0 0)) uI uI uI (sEq (xLW (111:FuncId) xMi))) (q1 (qB 0 2 124 xMk)) (fun (n,a,m,b,_,_) (c,_) _=>xg1 n a m b c) (fun _ _ p=>(AV.tuple [],([bF 0 2 124 p]:List Box))) []
def xbq (i j:Int):=i64.wrap ((u64.wrap (i64.wrap (i+j))).fdiv 2)
def xc2 (i j:Int) (a:LA):=(a.getD (0+(xbq i j).toNat) .top).cells
def xhU (a i j:Int) (b:LA):=xdz ((xc2 i j b).getD 0 .top).toList ((xc2 i j b).getD 1 .top).toList ((b.getD (0+a.toNat) .top).cells.getD 0 .top).toList ((b.getD (0+a.toNat) .top).cells.getD 1 .top).toList
def xih {T:Type} (c:Nat) (a i j:Int) (b:LA) (δ:T) (κl:(Int×Int×LA)->T) (κr:(Int×LA)->T):T:=br (decide (i<j)) (br (decide (0<=xbq i j)&&decide (xbq i j<(↑c:Int))) (br (decide (0+(xbq i j).toNat<b.length)&&((xc2 i j b).length==2&&xLE [Sh.list 3,Sh.list 2] (xc2 i j b) 0)) (br (decide (0<=a)&&decide (a<(↑c:Int))) (br (decide (0+a.toNat<b.length)&&((b.getD (0+a.toNat) .top).cells.length==2&&xLE [Sh.list 3,Sh.list 2] (b.getD (0+a.toNat) .top).cells 0)) (br ((xhU a i j b).isSome) (br (decide ((xhU a i j b).getD 0<0)) (κl (i64.wrap (xbq i j+1),j,b)) (κl (i,xbq i j,b))) δ) δ) δ) δ) δ) (κr (i,b))
def xbI (c:Nat) (a:Int):StT (Int×Int×LA) (Int×LA):=fun (i,j,b)=>xih c a i j b none inL inR
def xbd:=xqE.l 220 1 [124] [] Tryz.f145 0 lk0 [0,1,4,10,11] [0,1,10] [] (q5 (xMs 0 0 0) qI (xLW 111 xMi) qI qI) (q1 (qB 0 2 124 xMk)) (fun (b,a,_,i,j,_) (c,_)=>(xbI b a,(i,j,c),fun p=>(.leaf (.exit 0) [AV.osl 0 0 0 b,AV.int .i64 a,AV.int .i64 p.1] [bF 0 2 124 p.2]))) (0,[]) fun (b,a,_,_,_,_) _ (i,j,c)=>(((b,a,(),i,j,()),(c,())),xih b a i j c none)
def xhW (a:Nat) (k:Int):=decide (0<=i64.wrap (k+1))&&decide (i64.wrap (k+1)<(↑a:Int))
def xc4 (k:Int):Nat:=0+(i64.wrap (k+1)).toNat
def xhX (k:Int) (a:LA):=decide (0+k.toNat<a.length)
def xc3 (k:Int) (a:LA):=(a.getD (xc4 k) .top).cells
def xhV (k:Int) (a:LA):=a.set (0+k.toNat) (AV.agg [AV.list 3 ((xc3 k a).getD 0 .top).toList,AV.list 2 ((xc3 k a).getD 1 .top).toList])
def xii {T:Type} (b:Nat) (i k:Int) (a:LA) (δ:T) (κl:(Int×LA)->T) (κr:(LA)->T):T:=br (decide (k<i64.wrap (i - 1))) (br (xhW b k) (br (decide (xc4 k<a.length)&&((xc3 k a).length==2&&xLE [Sh.list 3,Sh.list 2] (xc3 k a) 0)) (br (decide (0<=k)&&decide (k<(↑b:Int))) (br (xhX k a&&((a.getD (0+k.toNat) .top).cells.length==2&&xLE [Sh.list 3,Sh.list 2] (a.getD (0+k.toNat) .top).cells 0)) (br (decide (0<=k)&&decide (k<(↑b:Int))) (br (xhX k a) (br (xhW b k) (br (decide (xc4 k<(xhV k a).length)) (κl (i64.wrap (k+1),(xhV k a).set (xc4 k) (AV.agg [AV.list 3 ((a.getD (0+k.toNat) .top).cells.getD 0 .top).toList,AV.list 2 ((a.getD (0+k.toNat) .top).cells.getD 1 .top).toList]))) δ) δ) δ) δ) δ) δ) δ) δ) (κr (a))
def xep (b:Nat) (i:Int):StT (Int×LA) (LA):=fun (k,a)=>xii b i k a none inL inR
def xbr:=xqE.l 220 1 [124] [(3,xbd.lp)] Tryz.f145 1 lk0 [0,10,13] [] [] (q3 (xMs 0 0 0) qI qI) (q1 (qB 0 2 124 xMk)) (fun (b,i,k,_) (a,_)=>(xep b i,(k,a),fun p=>(.leaf (.exit 2) [] [bF 0 2 124 p]))) [] fun (b,i,_,_) _ (k,a)=>(((b,i,k,()),(a,())),xii b i k a none)
def xbs (i j:Int):=i64.wrap ((u64.wrap (i64.wrap (i+j))).fdiv 2)
def xc5 (i j:Int) (a:LA):=(a.getD (0+(xbs i j).toNat) .top).cells
def xhY (m i j:Int) (a:LA):=xdz ((a.getD (0+m.toNat) .top).cells.getD 0 .top).toList ((a.getD (0+m.toNat) .top).cells.getD 1 .top).toList ((xc5 i j a).getD 0 .top).toList ((xc5 i j a).getD 1 .top).toList
def xij {T:Type} (b:Nat) (m i j:Int) (a:LA) (δ:T) (κl:(Int×Int×LA)->T) (κr:(Int×LA)->T):T:=br (decide (i<j)) (br (decide (0<=m)&&decide (m<(↑b:Int))) (br (decide (0+m.toNat<a.length)&&((a.getD (0+m.toNat) .top).cells.length==2&&xLE [Sh.list 3,Sh.list 2] (a.getD (0+m.toNat) .top).cells 0)) (br (decide (0<=xbs i j)&&decide (xbs i j<(↑b:Int))) (br (decide (0+(xbs i j).toNat<a.length)&&((xc5 i j a).length==2&&xLE [Sh.list 3,Sh.list 2] (xc5 i j a) 0)) (br ((xhY m i j a).isSome) (br (!decide ((xhY m i j a).getD 0<0)) (κl (i64.wrap (xbs i j+1),j,a)) (κl (i,xbs i j,a))) δ) δ) δ) δ) δ) (κr (i,a))
def xbJ (b:Nat) (m:Int):StT (Int×Int×LA) (Int×LA):=fun (i,j,a)=>xij b m i j a none inL inR
def xb6:=xqE.l 220 1 [124] [(3,xbd.lp),(9,xbr.lp)] Tryz.f145 2 lk0 [0,2,4,14,15] [0,2,14] [] (q5 (xMs 0 0 0) qI (xLW 111 xMi) qI qI) (q1 (qB 0 2 124 xMk)) (fun (a,m,_,i,j,_) (b,_)=>(xbJ a m,(i,j,b),fun p=>(.leaf (.exit 4) [AV.osl 0 0 0 a,AV.int .i64 m,AV.int .i64 p.1] [bF 0 2 124 p.2]))) (0,[]) fun (a,m,_,_,_,_) _ (i,j,b)=>(((a,m,(),i,j,()),(b,())),xij a m i j b none)
def xhx (a:Nat) (k:Int):=decide (0<=i64.wrap (k - 1))&&decide (i64.wrap (k - 1)<(↑a:Int))
def xc8 (k:Int):Nat:=0+(i64.wrap (k - 1)).toNat
def xh0 (k:Int) (a:LA):=decide (0+k.toNat<a.length)
def xc7 (k:Int) (a:LA):=(a.getD (xc8 k) .top).cells
def xhZ (k:Int) (a:LA):=a.set (0+k.toNat) (AV.agg [AV.list 3 ((xc7 k a).getD 0 .top).toList,AV.list 2 ((xc7 k a).getD 1 .top).toList])
def xik {T:Type} (b:Nat) (i k:Int) (a:LA) (δ:T) (κl:(Int×LA)->T) (κr:(LA)->T):T:=br (decide (k>i)) (br (xhx b k) (br (decide (xc8 k<a.length)&&((xc7 k a).length==2&&xLE [Sh.list 3,Sh.list 2] (xc7 k a) 0)) (br (decide (0<=k)&&decide (k<(↑b:Int))) (br (xh0 k a&&((a.getD (0+k.toNat) .top).cells.length==2&&xLE [Sh.list 3,Sh.list 2] (a.getD (0+k.toNat) .top).cells 0)) (br (decide (0<=k)&&decide (k<(↑b:Int))) (br (xh0 k a) (br (xhx b k) (br (decide (xc8 k<(xhZ k a).length)) (κl (i64.wrap (k - 1),(xhZ k a).set (xc8 k) (AV.agg [AV.list 3 ((a.getD (0+k.toNat) .top).cells.getD 0 .top).toList,AV.list 2 ((a.getD (0+k.toNat) .top).cells.getD 1 .top).toList]))) δ) δ) δ) δ) δ) δ) δ) δ) (κr (a))
def xeq (b:Nat) (i:Int):StT (Int×LA) (LA):=fun (k,a)=>xik b i k a none inL inR
def xc6:=xqE.l 220 1 [124] [(3,xbd.lp),(9,xbr.lp),(15,xb6.lp)] Tryz.f145 3 lk0 [0,14,17] [] [] (q3 (xMs 0 0 0) qI qI) (q1 (qB 0 2 124 xMk)) (fun (b,i,k,_) (a,_)=>(xeq b i,(k,a),fun p=>(.leaf (.exit 6) [] [bF 0 2 124 p]))) [] fun (b,i,_,_) _ (k,a)=>(((b,i,k,()),(a,())),xik b i k a none)
def xaS (a r:Int):=i64.wrap ((u64.wrap (i64.wrap (a+r))).fdiv 2)
def xc9 (c b r:Int) (a:LA):=(a.getD (0+(i64.wrap (c - xaS b r)).toNat) .top).cells
def xda (b r:Int) (a:LA):=(a.getD (0+(xaS b r).toNat) .top).cells
def xh1 (c b r:Int) (a:LA):=xdz ((xc9 c b r a).getD 0 .top).toList ((xc9 c b r a).getD 1 .top).toList ((xda b r a).getD 0 .top).toList ((xda b r a).getD 1 .top).toList
def xil {T:Type} (e:Nat) (a m b g n f c r:Int) (d:LA) (δ:T) (κl:(Int×Int×LA)->T) (κr:(Int×LA)->T):T:=br (decide (c<r)) (br (decide (0<=i64.wrap (f - xaS c r))&&decide (i64.wrap (f - xaS c r)<(↑e:Int))) (br (decide (0+(i64.wrap (f - xaS c r)).toNat<d.length)&&((xc9 f c r d).length==2&&xLE [Sh.list 3,Sh.list 2] (xc9 f c r d) 0)) (br (decide (0<=xaS c r)&&decide (xaS c r<(↑e:Int))) (br (decide (0+(xaS c r).toNat<d.length)&&((xda c r d).length==2&&xLE [Sh.list 3,Sh.list 2] (xda c r d) 0)) (br ((xh1 f c r d).isSome) (br (!decide ((xh1 f c r d).getD 0<0)) (κl (i64.wrap (xaS c r+1),r,d)) (κl (c,xaS c r,d))) δ) δ) δ) δ) δ) (κr (c,d))
def xcJ (d:Nat) (a m b f n g:Int):StT (Int×Int×LA) (Int×LA):=fun (e,r,c)=>xil d a m b f n g e r c none inL inR
def xeW:=xqE.l 220 1 [124] [(3,xbd.lp),(9,xbr.lp),(15,xb6.lp),(21,xc6.lp)] Tryz.f145 4 lk0 [0,1,2,3,4,18,19,20,21,22] [0,1,2,3,4,18,19,20] [] (q10 (xMs 0 0 0) qI qI qI (xLW 111 xMi) qI qI qI qI qI) (q1 (qB 0 2 124 xMk)) (fun (c,a,m,b,_,f,n,e,r,g,_) (d,_)=>(xcJ c a m b f n g,(e,r,d),fun p=>(.leaf (.exit 8) [AV.osl 0 0 0 c,AV.int .i64 a,AV.int .i64 m,AV.int .i64 b,AV.func 111 [],AV.int .i64 f,AV.int .i64 n,AV.int .i64 p.1] [bF 0 2 124 p.2]))) (0,[]) fun (c,a,m,b,_,f,n,_,_,g,_) _ (e,r,d)=>(((c,a,m,b,(),f,n,e,r,g,()),(d,())),xil c a m b f n g e r d none)
def xe9 (R:Nat->Int->Int->Int->LA->Option (LA)):LA->List Box->Option (Bool×AV×List Box):=omOf (xMh (sEq (xMs 0 0 0)) (xMh (sEq (pInt .i64)) (xMh (sEq (pInt .i64)) (xMh (sEq (pInt .i64)) (xMh (sEq (xLW (111:FuncId) xMi)) xMj))))) (xMg (xMv 0 2 (124:TypeId) false true xMk) xMi) fun (n,(a,(m,(b,(_,_))))) (c,_)=>((R n a m b c).isSome,(AV.tuple [],([⟨0,2,124,((R n a m b c).getD []),false,true⟩]:List Box)))
def xaT (R:Nat->Int->Int->Int->LA->Option (LA)):Env:=(xqE.E.withM 145 (xe9 R)).fn 220 1 (lsOf [124]) (xLV [(3,xbd.lp),(9,xbr.lp),(15,xb6.lp),(21,xc6.lp),(33,xeW.lp)])
def xeV (R:Nat->Int->Int->Int->LA->Option (LA)):Prop:=OmOk P0 xMf 145 (xe9 R)
theorem xor (R:Nat->Int->Int->Int->LA->Option (LA)) (a:xeV R):xLz P0 (xMf.at 1) (xaT R):=(xqE.ok.withM a).fn
theorem xl7 (R:Nat->Int->Int->Int->LA->Option (LA)):LoOk P0 (xMf.at (xaT R).pin) (xaT R) (Tryz.f145.body.getD .skip):=xkR (ls:=[xLD Tryz.f145 0,xLD Tryz.f145 1,xLD Tryz.f145 2,xLD Tryz.f145 3,xLD Tryz.f145 4]) (by kernel_rfl) (fun l b lp a=>by
 simp only [zC,List.not_mem_nil,or_false] at b;rcases b with rfl|rfl|rfl|rfl|rfl
 . rw [show (xaT R).lp (xLN (xLD Tryz.f145 0))=some xbd.lp by kernel_rfl] at a
   simp only [z6] at a;subst a;exact xbd.ok
 . rw [show (xaT R).lp (xLN (xLD Tryz.f145 1))=some xbr.lp by kernel_rfl] at a
   simp only [z6] at a;subst a;exact xbr.ok
 . rw [show (xaT R).lp (xLN (xLD Tryz.f145 2))=some xb6.lp by kernel_rfl] at a
   simp only [z6] at a;subst a;exact xb6.ok
 . rw [show (xaT R).lp (xLN (xLD Tryz.f145 3))=some xc6.lp by kernel_rfl] at a
   simp only [z6] at a;subst a;exact xc6.ok
 . rw [show (xaT R).lp (xLN (xLD Tryz.f145 4))=some xeW.lp by kernel_rfl] at a
   simp only [z6] at a;subst a;exact xeW.ok)
def xaa (a b:Int):=i64.wrap ((u64.wrap (i64.wrap (a+b))).fdiv 2)
def xaE (n:Nat) (a m b:Int) (c:LA):=Iter (xep n ((Iter (xbI n a) (m,b,c)).getD (0,[])).fst) (a,((Iter (xbI n a) (m,b,c)).getD (0,[])).snd)
def xaF (n:Nat) (a m:Int) (b:LA):=Iter (xeq n ((Iter (xbJ n m) (a,m,b)).getD (0,[])).fst) (m,((Iter (xbJ n m) (a,m,b)).getD (0,[])).snd)
def xaG (n:Nat) (a m b:Int) (c:LA):=Iter (xcJ n a m b (xaa a b) (i64.wrap (xaa a b+m)) (i64.wrap (i64.wrap (xaa a b+m) - 1))) (i64.wrap (i64.wrap (xaa a b+m) - b),xaa a b,c)
def xaI (n:Nat) (a m b:Int) (c:LA):=Iter (xcJ n a m b (xaa a b) (i64.wrap (xaa a b+m)) (i64.wrap (i64.wrap (xaa a b+m) - 1))) (a,m,c)
def xaD (n:Nat) (a m b:Int) (c:LA):=(xaG n a m b c).getD (0,[])
def xaH (n:Nat) (a m b:Int) (c:LA):=(xaI n a m b c).getD (0,[])
def xab (n:Nat) (a m b:Int) (c:LA):=(xaD n a m b c).fst
def xac (n:Nat) (a m b:Int) (c:LA):=(xaH n a m b c).fst
def xaf (n:Nat) (a m b:Int) (c:LA):=(xaD n a m b c).snd
def xag (n:Nat) (a m b:Int) (c:LA):=(xaH n a m b c).snd
def xad (n:Nat) (a m b:Int) (c:LA):=i64.wrap (i64.wrap (xaa a b+m) - xab n a m b c)
def xae (n:Nat) (a m b:Int) (c:LA):=i64.wrap (i64.wrap (xaa a b+m) - xac n a m b c)
def xaz (n:Nat) (a m b:Int) (c:LA):=decide (xab n a m b c<xaa a b)
def xaA (n:Nat) (a m b:Int) (c:LA):=decide (a<xab n a m b c)
def xaB (n:Nat) (a m b:Int) (c:LA):=decide (xac n a m b c<xaa a b)
def xaC (n:Nat) (a m b:Int) (c:LA):=decide (a<xac n a m b c)
def xan (n:Nat) (a m b:Int) (c:LA):=decide (xaa a b<xad n a m b c)
def xao (n:Nat) (a m b:Int) (c:LA):=decide (xad n a m b c<b)
def xap (n:Nat) (a m b:Int) (c:LA):=decide (xaa a b<xae n a m b c)
def xaq (n:Nat) (a m b:Int) (c:LA):=decide (xae n a m b c<b)
def xai (n:Nat) (a m b:Int) (c:LA):=(xca n (xab n a m b c) m (xad n a m b c) (xaf n a m b c)).getD []
def xaj (n:Nat) (a m b:Int) (c:LA):=(xca n (xac n a m b c) m (xae n a m b c) (xag n a m b c)).getD []
def xaJ (R:Nat->Int->Int->Int->LA->Option (LA)) (n:Nat) (a m b:Int) (c:LA):Option (LA):=R n (xaa a b) (xad n a m b c) b ((R n a (xab n a m b c) (xaa a b) (xai n a m b c)).getD [])
def xaK (R:Nat->Int->Int->Int->LA->Option (LA)) (n:Nat) (a m b:Int) (c:LA):Option (LA):=R n (xaa a b) (xae n a m b c) b ((R n a (xac n a m b c) (xaa a b) (xaj n a m b c)).getD [])
def xat {T:Type} (R:Nat->Int->Int->Int->LA->Option (LA)) (n:Nat) (a m b:Int) (c:LA) (δ:T) (κ:LA->T):T:=br (xan n a m b c) (br (xao n a m b c) (br ((R n (xaa a b) (xad n a m b c) b (xai n a m b c)).isSome) (κ ((R n (xaa a b) (xad n a m b c) b (xai n a m b c)).getD [])) δ) (κ (xai n a m b c))) (κ (xai n a m b c))
def xau {T:Type} (R:Nat->Int->Int->Int->LA->Option (LA)) (n:Nat) (a m b:Int) (c:LA) (δ:T) (κ:LA->T):T:=br (xap n a m b c) (br (xaq n a m b c) (br ((R n (xaa a b) (xae n a m b c) b (xaj n a m b c)).isSome) (κ ((R n (xaa a b) (xae n a m b c) b (xaj n a m b c)).getD [])) δ) (κ (xaj n a m b c))) (κ (xaj n a m b c))
def xav {T:Type} (R:Nat->Int->Int->Int->LA->Option (LA)) (n:Nat) (a m b:Int) (c:LA) (δ:T) (κ:LA->T):T:=br (xan n a m b c) (br (xao n a m b c) (br ((R n (xaa a b) (xad n a m b c) b (xaf n a m b c)).isSome) (κ ((R n (xaa a b) (xad n a m b c) b (xaf n a m b c)).getD [])) δ) (κ (xaf n a m b c))) (κ (xaf n a m b c))
def xar {T:Type} (R:Nat->Int->Int->Int->LA->Option (LA)) (n:Nat) (a m b:Int) (c:LA) (δ:T) (κ:LA->T):T:=br (xaA n a m b c) (br (xaz n a m b c) (br ((R n a (xab n a m b c) (xaa a b) (xaf n a m b c)).isSome) (br (xan n a m b c) (br (xao n a m b c) (br ((R n (xaa a b) (xad n a m b c) b ((R n a (xab n a m b c) (xaa a b) (xaf n a m b c)).getD [])).isSome) (κ ((R n (xaa a b) (xad n a m b c) b ((R n a (xab n a m b c) (xaa a b) (xaf n a m b c)).getD [])).getD [])) δ) (κ ((R n a (xab n a m b c) (xaa a b) (xaf n a m b c)).getD []))) (κ ((R n a (xab n a m b c) (xaa a b) (xaf n a m b c)).getD []))) δ) (xav R n a m b c δ κ)) (xav R n a m b c δ κ)
def xaw {T:Type} (R:Nat->Int->Int->Int->LA->Option (LA)) (n:Nat) (a m b:Int) (c:LA) (δ:T) (κ:LA->T):T:=br (xap n a m b c) (br (xaq n a m b c) (br ((R n (xaa a b) (xae n a m b c) b (xag n a m b c)).isSome) (κ ((R n (xaa a b) (xae n a m b c) b (xag n a m b c)).getD [])) δ) (κ (xag n a m b c))) (κ (xag n a m b c))
def xas {T:Type} (R:Nat->Int->Int->Int->LA->Option (LA)) (n:Nat) (a m b:Int) (c:LA) (δ:T) (κ:LA->T):T:=br (xaC n a m b c) (br (xaB n a m b c) (br ((R n a (xac n a m b c) (xaa a b) (xag n a m b c)).isSome) (br (xap n a m b c) (br (xaq n a m b c) (br ((R n (xaa a b) (xae n a m b c) b ((R n a (xac n a m b c) (xaa a b) (xag n a m b c)).getD [])).isSome) (κ ((R n (xaa a b) (xae n a m b c) b ((R n a (xac n a m b c) (xaa a b) (xag n a m b c)).getD [])).getD [])) δ) (κ ((R n a (xac n a m b c) (xaa a b) (xag n a m b c)).getD []))) (κ ((R n a (xac n a m b c) (xaa a b) (xag n a m b c)).getD []))) δ) (xaw R n a m b c δ κ)) (xaw R n a m b c δ κ)
def xaL {T:Type} (R:Nat->Int->Int->Int->LA->Option (LA)) (n:Nat) (a m b:Int) (c:LA) (δ:T) (κ:LA->T):T:=br (i64.wrap (m - a)==1) (br ((Iter (xbI n a) (m,b,c)).isSome) (br ((xaE n a m b c).isSome) (κ ((xaE n a m b c).getD [])) δ) δ) (br (i64.wrap (b - m)==1) (br ((Iter (xbJ n m) (a,m,c)).isSome) (br ((xaF n a m c).isSome) (κ ((xaF n a m c).getD [])) δ) δ) (br (decide (m>xaa a b)) (br ((xaG n a m b c).isSome) (br (decide (xab n a m b c<m)) (br (decide (m<xad n a m b c)) (br ((xca n (xab n a m b c) m (xad n a m b c) (xaf n a m b c)).isSome) (br (xaA n a m b c) (br (xaz n a m b c) (br ((R n a (xab n a m b c) (xaa a b) (xai n a m b c)).isSome) (br (xan n a m b c) (br (xao n a m b c) (br ((xaJ R n a m b c).isSome) (κ ((xaJ R n a m b c).getD [])) δ) (κ ((R n a (xab n a m b c) (xaa a b) (xai n a m b c)).getD []))) (κ ((R n a (xab n a m b c) (xaa a b) (xai n a m b c)).getD []))) δ) (xat R n a m b c δ κ)) (xat R n a m b c δ κ)) δ) (xar R n a m b c δ κ)) (xar R n a m b c δ κ)) δ) (br ((xaI n a m b c).isSome) (br (decide (xac n a m b c<m)) (br (decide (m<xae n a m b c)) (br ((xca n (xac n a m b c) m (xae n a m b c) (xag n a m b c)).isSome) (br (xaC n a m b c) (br (xaB n a m b c) (br ((R n a (xac n a m b c) (xaa a b) (xaj n a m b c)).isSome) (br (xap n a m b c) (br (xaq n a m b c) (br ((xaK R n a m b c).isSome) (κ ((xaK R n a m b c).getD [])) δ) (κ ((R n a (xac n a m b c) (xaa a b) (xaj n a m b c)).getD []))) (κ ((R n a (xac n a m b c) (xaa a b) (xaj n a m b c)).getD []))) δ) (xau R n a m b c δ κ)) (xau R n a m b c δ κ)) δ) (xas R n a m b c δ κ)) (xas R n a m b c δ κ)) δ)))
def xay (R:Nat->Int->Int->Int->LA->Option (LA)) (n:Nat) (a m b:Int) (c:LA):=xaL R n a m b c none some
theorem xqu (R:Nat->Int->Int->Int->LA->Option (LA)) (n:Nat) (a m b:Int) (xs:LA):Enc (fun (p:LA)=>(((AV.tuple [],([⟨0,2,124,p,false,true⟩]:List Box))):(AV×List Box))) (xay R n a m b xs) (XFM P0 (xaT R) Tryz.f145 (Tryz.f145.body.getD .skip) [AV.osl (0:Id) 0 0 n,AV.int .i64 a,AV.int .i64 m,AV.int .i64 b,AV.func (111:FuncId) []] [{ ver:=0,sz:=2,ty:=(124:TypeId),xs:=xs,frz:=false,pm:=true }]):=by
 have h:XFM P0 (xaT R) Tryz.f145 (Tryz.f145.body.getD .skip) [AV.osl (0:Id) 0 0 n,AV.int .i64 a,AV.int .i64 m,AV.int .i64 b,AV.func (111:FuncId) []] [{ ver:=0,sz:=2,ty:=(124:TypeId),xs:=xs,frz:=false,pm:=true }]=xaL R n a m b xs none (fun (p:LA)=>some (((AV.tuple [],([⟨0,2,124,p,false,true⟩]:List Box))):(AV×List Box))):=by kernel_rfl
 rw [h];unfold xay xaL xar xas xat xau xav xaw;repeat' (first|refine Enc.br ?_ ?_|exact Enc.none|exact Enc.some rfl)
def xqt (R:Nat->Int->Int->Int->LA->Option (LA)):LA->List Box->Option (Bool×AV×List Box):=omOf (xMh (sEq (xMs 0 0 0)) (xMh (sEq (pInt .i64)) (xMh (sEq (pInt .i64)) (xMh (sEq (pInt .i64)) (xMh (sEq (xLW (111:FuncId) xMi)) xMj))))) (xMg (xMv 0 2 (124:TypeId) false true xMk) xMi) fun (n,(a,(m,(b,(_,_))))) (c,_)=>((xay R n a m b c).isSome,((AV.tuple [],([⟨0,2,124,((xay R n a m b c).getD []),false,true⟩]:List Box))))
theorem xqs (R:Nat->Int->Int->Int->LA->Option (LA)) (f:xeV R):OmOk P0 xMf 145 (xqt R):=xnc fun g h k j i=>by
 obtain ⟨n,⟨a,⟨m,⟨b,⟨_,_⟩⟩⟩⟩⟩:=g;obtain ⟨l,_⟩:=h;obtain ⟨c,e⟩:=Prod.mk.inj i;refine xhy (p:=(xaT R).pin) (xjw xLI (xLJ P0 _) rfl (xor R f) rfl Tryz.func145 rfl (by kernel_rfl) (xl7 R) ((xqu R _ _ _ _ _ _ (xbF (d:=[]) c)).trans ?_))
 exact congrArg some e
def xaR:Nat->Nat->Int->Int->Int->LA->Option (LA)
 | 0=>fun _ _ _ _ _=>none
 | fu_+1=>fun n a m b c=>xay (xaR fu_) n a m b c
theorem xig:∀ n,xeV (xaR n)
 | 0=>xnc fun _ _ _ _ h=>absurd (Prod.mk.inj h).1 Bool.false_ne_true
 | fu_+1=>fun a H r b h=>xqs (xaR fu_) (xig fu_) a H r b h
def xG4:Env:=xqE.E.withM 145 (xe9 (xaR 1000))
theorem xFT:xLz P0 xMf xG4:=xqE.ok.withM (xig _)
def xsw:EO:=EO.mk xG4 xFT
def xjA {T:Type} (d:Nat) (n e a b:Int) (c:LA) (δ:T) (κl:(Int×Int×LA)->T) (κr:(Int×LA)->T):T:=br (decide (b<=n)) (br ((xby d a b c).isSome) (κl (b,i64.wrap (b+e),(xby d a b c).getD [])) δ) (κr (a,c))
def xb4 (e:Nat) (n c:Int):StT (Int×Int×LA) (Int×LA):=fun (a,b,d)=>xjA e n c a b d none inL inR
def xdL:=xsw.l 63 1 [124] [] Tryz.f127 0 lk0 [0,1,2,6,7,8] [0,1,2,6,7] [] (q6 (xMs 0 0 0) qI (xLW 111 xMi) qI qI qI) (q1 (qB 0 2 124 xMk)) (fun (d,n,_,c,a,b,_) (e,_)=>(xb4 d n c,(a,b,e),fun p=>(.leaf (.exit 0) [AV.osl 0 0 0 d,AV.int .i64 n,AV.func 111 [],AV.int .i64 c,AV.int .i64 p.1] [bF 0 2 124 p.2]))) (0,[]) fun (d,n,_,c,_,_,_) _ (a,b,e)=>(((d,n,(),c,a,b,()),(e,())),xjA d n c a b e none)
def xjB {T:Type} (e:Nat) (n c a b:Int) (d:LA) (δ:T) (κl:(Int×Int×LA)->T) (κr:(Int×LA)->T):T:=br (decide (b<=n)) (br ((xaR 1000 e a (i64.wrap (a+c)) b d).isSome) (κl (b,i64.wrap (b+i64.wrap (2*c)),(xaR 1000 e a (i64.wrap (a+c)) b d).getD [])) δ) (κr (a,d))
def xc0 (e:Nat) (n c:Int):StT (Int×Int×LA) (Int×LA):=fun (a,b,d)=>xjB e n c a b d none inL inR
def xdS:=xsw.l 63 1 [124] [(2,xdL.lp)] Tryz.f127 2 lk0 [0,1,2,6,7,8] [0,1,2,6,7] [] (q6 (xMs 0 0 0) qI (xLW 111 xMi) qI qI qI) (q1 (qB 0 2 124 xMk)) (fun (d,n,_,c,a,b,_) (e,_)=>(xc0 d n c,(a,b,e),fun p=>(.leaf (.exit 4) [AV.osl 0 0 0 d,AV.int .i64 n,AV.func 111 [],AV.int .i64 c,AV.int .i64 p.1] [bF 0 2 124 p.2]))) (0,[]) fun (d,n,_,c,_,_,_) _ (a,b,e)=>(((d,n,(),c,a,b,()),(e,())),xjB d n c a b e none)
def xdR (c:Nat) (n a:Int) (b:LA):=Iter (xc0 c n a) (0,i64.wrap (2*a),b)
def xdQ (c:Nat) (n a:Int) (b:LA):=(xdR c n a b).getD (0,[])
def xdO (c:Nat) (n a:Int) (b:LA):=(xdQ c n a b).fst
def xdP (c:Nat) (n a:Int) (b:LA):=(xdQ c n a b).snd
def xdN (c:Nat) (n a:Int) (b:LA):=i64.wrap (xdO c n a b+a)
def xdM (b:Nat) (n a:Int) (c:LA):=xaR 1000 b (xdO b n a c) (xdN b n a c) n (xdP b n a c)
def xcy {T:Type} (c:Nat) (n a:Int) (b:LA) (δ:T) (κl:(Int×LA)->T) (κr:(LA)->T):T:=br (decide (a<n)) (br ((xdR c n a b).isSome) (br (decide (xdN c n a b<n)) (br ((xdM c n a b).isSome) (κl (i64.wrap (a*2),(xdM c n a b).getD [])) δ) (κl (i64.wrap (a*2),xdP c n a b))) δ) (κr (b))
def xbc (c:Nat) (n:Int):StT (Int×LA) (LA):=fun (a,b)=>xcy c n a b none inL inR
def xjc:=xsw.l 63 1 [124] [(2,xdL.lp),(9,xdS.lp)] Tryz.f127 1 (lk1 xdS.ok) [0,1,2,6] [] [] (q4 (xMs 0 0 0) qI (xLW 111 xMi) qI) (q1 (qB 0 2 124 xMk)) (fun (c,n,_,a,_) (b,_)=>(xbc c n,(a,b),fun p=>(.leaf (.exit 2) [] [bF 0 2 124 p]))) [] fun (c,n,_,_,_) _ (a,b)=>(((c,n,(),a,()),(b,())),xcy c n a b none)
def xgF (n:Nat) (k:Int) (a:LA):=(Iter (xb4 n k 20) (0,20,a)).getD (0,[])
def xgE (n:Nat) (k:Int) (a:LA):=xby n (xgF n k a).fst k (xgF n k a).snd
def xgD (n:Nat) (k:Int) (a:LA):=Iter (xbc n k) (20,(xgE n k a).getD [])
def xg2 {T:Type} (n:Nat) (k:Int) (a:LA) (δ:T) (κ:LA->T):T:=br ((Iter (xb4 n k 20) (0,20,a)).isSome) (br ((xgE n k a).isSome) (br ((xgD n k a).isSome) (κ ((xgD n k a).getD [])) δ) δ) δ
def xfD (n:Nat) (k:Int) (a:LA):=xg2 n k a none some
def xJM:EO:=xsw.fM Tryz.func127 63 1 [124] [(2,xdL.lp),(9,xdS.lp),(7,xjc.lp)] (lks (lkC xdL.ok (lkC xjc.ok (lkC xdS.ok lkN)))) (u3 (sEq (xMs 0 0 0)) uI (sEq (xLW (111:FuncId) xMi))) (q1 (qB 0 2 124 xMk)) (fun (n,k,_,_) (a,_) _=>xg2 n k a) (fun _ _ p=>(AV.tuple [],([bF 0 2 124 p]:List Box))) []
def xgw {T:Type} (n:Nat) (a:LA) (δ:T) (κ:LA->T):T:=br ((xfD n (↑n:Int) a).isSome) (κ ((xfD n (↑n:Int) a).getD [])) δ
def xhh (n:Nat) (a:LA):=xgw n a none some
def xG5:EO:=xJM.fM Tryz.func110 9 1 [124] [] lk0 (u2 (sEq (xMs 0 0 0)) (sEq (xLW (111:FuncId) xMi))) (q1 (qB 0 2 124 xMk)) (fun (n,_,_) (a,_) _=>xgw n a) (fun _ _ p=>(AV.tuple [],([bF 0 2 124 p]:List Box))) []
def xeO (b:LA) (c:Int) (a:LA):=a++[AV.agg [AV.list 3 (gC b c 0).toList,AV.list 2 []]]
def xbX (a:Nat):Nat:=0+(↑a:Int).toNat
def xcA (a:LA) (b:Int):=(xkD (gC a b 0).toList).getD []
def xg4 (d:LA) (f:Int) (b:Nat) (e:Int) (c a:LA):=decide (xbX b<(xeO d e a).length)
def xg5 (d:LA) (e:Int) (a:Nat) (f:Int) (b c:LA):=decide ((↑a:Int)<(↑(a+1):Int))
def xbj (c:LA) (b:Nat) (d:Int) (a:LA):=((xeO c d a).getD (xbX b) .top).cells
def xgp (a:LA) (b:Int):=decide ((xcA a b).length<=4611686018427387904)
def xeP (b:LA) (c:Int) (a:LA):=(xLR (AV.int .i64 0) a (xcA b c)).toInt
def xg6 (c:LA) (b:Nat) (d:Int) (a:LA):=decide (0<=xeP c d a)&&decide (xeP c d a<(↑b:Int))
def xa0 (c:LA) (b:Nat) (d:Int) (a:LA):=((xbj c b d a).getD 1 .top).toList.length
def xaU (b:LA) (c:Int) (a:LA):Nat:=0+(xeP b c a).toNat
def xgo (a:LA) (d:Nat) (b:Int) (c:LA):=((xbj a d b c).getD 1 .top).toList++[AV.agg [AV.int .i64 (gC a b 1).toInt,AV.int .i64 (gC a b 2).toInt]]
def xfc (c:LA) (b:Nat) (d:Int) (a:LA):=(xeO c d a).set (xbX b) (AV.agg (List.take 1 (xbj c b d a)++[AV.int .i64 (↑(xa0 c b d a):Int)]++List.drop 2 (xbj c b d a)))
def xg7 (c:LA) (d:Int) (a b:LA):=decide (xaU c d a<b.length)
def xa1 (c:LA) (d:Int) (a b:LA):=((b.getD (xaU c d a) .top).cells.getD 1 .top).toList.length
def xgn (b:LA) (c:Int) (a d:LA):=((d.getD (xaU b c a) .top).cells.getD 1 .top).toList++[AV.agg [AV.int .i64 (gC b c 1).toInt,AV.int .i64 (gC b c 2).toInt]]
def xdx (c:LA) (a:Nat) (d:Int) (b:LA):=((xfc c a d b).getD (xbX a) .top).cells
def xfd (c:LA) (d:Int) (a b:LA):=b.set (xaU c d a) (AV.agg (List.take 1 (b.getD (xaU c d a) .top).cells++[AV.int .i64 (↑(xa1 c d a b):Int)]++List.drop 2 (b.getD (xaU c d a) .top).cells))
def xd0 (c:LA) (d:Int) (a b:LA):=((xfd c d a b).getD (xaU c d a) .top).cells
def xev {T:Type} (d:LA) (f:Int) (e:Nat) (c:Int) (b a:LA) (δ:T) (κl:(Nat×Int×LA×LA)->T) (κr:(Nat×LA)->T):T:=br (decide (c<f)) (br (ixI d c) (br (ixT d c 3 [Sh.list 3,Sh.int .i64,Sh.int .i64] 0) (br (!xbb (gC d c 1).toInt (gC d c 2).toInt) (κl (e,i64.wrap (c+1),b,a)) (br ((xkD (gC d c 0).toList).isSome) (br (xgp d c&&xLw (Sh.int .i64) (xLR (AV.int .i64 0) b (xcA d c))) (br (!xL2 b (xcA d c)) (br (decide (b.length<4611686018427387904)&&xgp d c) (br (rmB e a 1 48) (br (xg5 d f e c b a) (br (xg4 d f e c b a&&(xMd 2 ((xbj d e c a).getD 1 .top)&&(xbj d e c a).length==2)) (br (xg4 d f e c b a&&(xMd 2 ((xbj d e c a).getD 1 .top)&&((xbj d e c a).length==2&&(2*xa0 d e c a==2*xa0 d e c a&&(xa0 d e c a==xa0 d e c a&&(xa0 d e c a==xa0 d e c a&&(decide ((xa0 d e c a+1)*16<=140737488355328)&&decide (xa0 d e c a+1<=4611686018427387904)))))))) (br (xg5 d f e c b a) (br (decide (xbX e<(xfc d e c a).length)&&((xdx d e c a).length==2&&(xa0 d e c a+1==(xgo d e c a).length&&xMB ((xdx d e c a).getD 1 .top) (xa0 d e c a+1)))) (κl (e+1,i64.wrap (c+1),xLP b (xcA d c) (AV.int .i64 (↑e:Int)),(xfc d e c a).set (xbX e) (AV.agg (List.take 1 (xdx d e c a)++[AV.list 2 (xgo d e c a)]++List.drop 2 (xdx d e c a))))) δ) δ) δ) δ) δ) δ) δ) (br (xg6 d e c b) (br (xg7 d c b a&&(xMd 2 ((a.getD (xaU d c b) .top).cells.getD 1 .top)&&(a.getD (xaU d c b) .top).cells.length==2)) (br (xg7 d c b a&&(xMd 2 ((a.getD (xaU d c b) .top).cells.getD 1 .top)&&((a.getD (xaU d c b) .top).cells.length==2&&(2*xa1 d c b a==2*xa1 d c b a&&(xa1 d c b a==xa1 d c b a&&(xa1 d c b a==xa1 d c b a&&(decide ((xa1 d c b a+1)*16<=140737488355328)&&decide (xa1 d c b a+1<=4611686018427387904)))))))) (br (xg6 d e c b) (br (decide (xaU d c b<(xfd d c b a).length)&&((xd0 d c b a).length==2&&(xa1 d c b a+1==(xgn d c b a).length&&xMB ((xd0 d c b a).getD 1 .top) (xa1 d c b a+1)))) (κl (e,i64.wrap (c+1),b,(xfd d c b a).set (xaU d c b) (AV.agg (List.take 1 (xd0 d c b a)++[AV.list 2 (xgn d c b a)]++List.drop 2 (xd0 d c b a))))) δ) δ) δ) δ) δ)) δ) δ)) δ) δ) (κr (e,a))
def xbN (d:LA) (e:Int):StT (Nat×Int×LA×LA) (Nat×LA):=fun (c,f,a,b)=>xev d e c f a b none inL inR
def xoI:=xG5.l 60 0 [] [] Tryz.f88 0 lk0 [3,4,11,12,13] [4] [(4,2,240654483580)] (q5 (xMt 0 0 0 0) (xMs 1 0 0) (qL 3) qI qI) (q2 (qB 0 2 1208925819615247717105664 xMk) (qB 0 2 240654483580 xMk)) (fun (_,c,d,e,f,_) (a,b,_)=>(xbN d e,(c,f,a,b),fun p=>(.leaf (.exit 0) [AV.osl 0 0 0 p.1] [bF 0 2 240654483580 p.2]))) (0,[]) fun (_,_,d,e,_,_) _ (c,f,a,b)=>((((),c,d,e,f,()),(a,b,())),xev d e c f a b none)
def xmD (l:LA):=Iter (xbN l (↑l.length:Int)) (0,0,[],[])
def xmC (l:LA):=(xmD l).getD (0,[])
def xjD (l:LA):=(xmC l).fst
def xmB (l:LA):=(xmC l).snd
def xmA (l:LA):=xhh (xjD l) (xmB l)
def xmz (l:LA):=(xmA l).getD []
def xnB {T:Type} (l:LA) (δ:T) (κ:LA->T):T:=br ((xmD l).isSome) (br (xL3 2 1 (xmB l)) (br ((xmA l).isSome) (br (decide (0+xjD l<=(xmz l).length)&&true) (κ (List.take (xjD l) (List.drop 0 (xmz l)))) δ) δ) δ) δ
def xjZ (l:LA):=xnB l none some
def xG6:EO:=xG5.f Tryz.func88 60 0 [] [(4,xoI.lp)] (lk1 xoI.ok) (u1 (uL 3)) (fun (l,_) _=>xnB l) (fun _ p=>AV.list 2 p) []
end Go.Sim.M
end
