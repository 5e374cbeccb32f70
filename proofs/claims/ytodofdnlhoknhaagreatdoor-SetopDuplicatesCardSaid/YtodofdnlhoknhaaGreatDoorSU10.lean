/- Part 10 of the proof of the law. -/
import Derived.Test.YtodofdnlhoknhaaGreatDoorSU9
import Derived.WalkKit
import Derived.BigCall
import Derived.Lib.Strings
import Derived.Lib.Slices
import Derived.Lib.Walk
import Derived.Lib.Builder
import Derived.Lib.UnsafeStr
import Derived.Laws.Externs
import Derived.Laws.IdiomCopy
import Derived.Laws.BitsLemmas
import Derived.RegionTactic
set_option linter.defProp false
set_option linter.unusedVariables false
set_option linter.unusedSimpArgs false
set_option linter.unnecessarySimpa false
noncomputable section
namespace Go.Proofs
open Go.RowKit Go.Lib
def Tryz.lies_builder (n:Nat) (hn:1<=n):liesAt Tryz.prog Tryz.prog.depth 111 n 0 111 1=true:=by
 have hc:Tryz.prog.cellsOf 111=2:=by kernel_rfl
 have hd:Tryz.prog.depth=(2*(Tryz.prog.types.size+Made.depth)+1)+1:=rfl;generalize Tryz.prog=P at *;rw [hd];simp only [liesAt,Bool.or_eq_true];left;rw [hd];simp [rowAt,hc,hn,sameLayout]
set_option maxHeartbeats 2000000 in
set_option maxRecDepth 100000 in
def Tryz.copyCheck_used (b:Nat) (w:World) (h0:w.cell? ⟨b,0,none⟩=some (.pointer (some ⟨b,0,none⟩))) :
  Calls Tryz.prog 130 #[.pointer (some ⟨b,0,none⟩)] w fun e w'=>e=.returned (.tuple #[])/\w'=w:=by
 have hsz:(Tryz.prog.info? 111).map (·.size)=some 2:=by kernel_rfl
 obtain ⟨j,hj,_⟩:=Option.map_eq_some_iff.1 hsz;have tp:Tryz.prog.underlying 108=some (.pointer 111):=by kernel_rfl
 go_enter Tryz.func130,Tryz.ntmps130
 go_wp2
 rw [Lib.run_neq_ptr_same w _ tp hj]
 go_wp2
 go_end0
 exact ⟨rfl,rfl⟩
set_option maxHeartbeats 2000000 in
set_option maxRecDepth 100000 in
def Tryz.copyCheck_fresh (b n:Nat) (hn:1<=n) (w:World) (h0:w.cell? ⟨b,0,none⟩=some (.pointer none)) (J:w.shape? b=some (111,n*2)) (Q:w.frozen? ⟨b,0,none⟩=false) :
  Calls Tryz.prog 130 #[.pointer (some ⟨b,0,none⟩)] w fun e w'=>e=.returned (.tuple #[])/\w'=w.setCell ⟨b,0,none⟩ (.pointer (some ⟨b,0,none⟩)):=by
 have hsz:(Tryz.prog.info? 111).map (·.size)=some 2:=by kernel_rfl
 obtain ⟨j,hj,O⟩:=Option.map_eq_some_iff.1 hsz;have hc:Tryz.prog.cellsOf 111=2:=by kernel_rfl
 have tp:Tryz.prog.underlying 108=some (.pointer 111):=by kernel_rfl
 have tu:Tryz.prog.underlying 171=some .unsafePointer:=by kernel_rfl
 have q:liesAt Tryz.prog Tryz.prog.depth 111 (n*2 / Tryz.prog.cellsOf 111) 0 111 1=true:=by
  rw [hc,Nat.mul_div_cancel _ (by decide)];exact Tryz.lies_builder n hn
 have c1:=Lib.run_to_unsafe w ⟨b,0,none⟩ tp tu hj (by rw [O];decide) J (show 0<n*2 by omega)
 have c2:=Lib.run_from_unsafe w ⟨b,0,none⟩ tu tp hj J q;clear q
 go_enter Tryz.func130,Tryz.ntmps130
 go_wp2
 rw [run_callFunc_extern Tryz.func148 (by kernel_rfl) (by kernel_rfl) (by kernel_rfl) (e:=Extern.AbiNoEscape.same) (by kernel_rfl)]
 rw [Lib.run_noEscape];simp only [Result.andThen];rw [Oper.upon_value]
 go_wp2
 go_end0
 exact ⟨rfl,rfl⟩
set_option maxHeartbeats 2000000 in
set_option maxRecDepth 100000 in
def Tryz.builder_string (b g cap:Nat) (l:List UInt8) (cur:Array Value) (w:World) (hb:w.cell? ⟨b,1,none⟩=some (.slice (some ⟨g,0,none⟩) l.length cap))
  (hg:w.heap[g]?=some (.cells cur 5 (0,0))) (q:∀ j x,l[j]?=some x->w.cell? ((⟨g,0,none⟩:Addr).add j)=some (.int .u8 x.toNat)) (V:l.length<=cur.size) (hcap:cap≠0) (h0:l≠[]) (J:l.length<=9223372036854775807) :
  Calls Tryz.prog 97 #[.pointer (some ⟨b,0,none⟩)] w fun e w'=>e=.returned (.string ⟨l.toArray⟩)/\w'=w.drew.freeze ⟨g,0,none⟩ l.length:=by
 have c1:w.drew.cell? ⟨b,1,none⟩=some (.slice (some ⟨g,0,none⟩) l.length cap):=hb;have Q:Tryz.prog.underlying 155=some (.pointer 5):=by kernel_rfl
 have O:Tryz.prog.cellsOf 5=1:=by kernel_rfl
 have Y:(Builtin.unsafeSliceData_ #[109] 155 #[.slice (some ⟨g,0,none⟩) l.length cap]).run Tryz.prog w.drew=.ok (.pointer (some ⟨g,0,none⟩)) w.drew :=
  Lib.run_unsafeSliceData_row _ _ _ _ _ _ hcap
 have W:(Builtin.unsafeString_ #[155,3] 9 #[.pointer (some ⟨g,0,none⟩),.int .i64 l.length]).run Tryz.prog w.drew=.ok (.string ⟨l.toArray⟩) (w.drew.freeze ⟨g,0,none⟩ l.length) :=
  Lib.run_unsafeString_row w.drew 155 3 9 5 Q O g cur.size (by have hg':w.drew.heap[g]?=some (.cells cur 5 (0,0)):=hg;simp [World.shape?,hg']) l h0 V J q
 clear q
 go_enter Tryz.func97,Tryz.ntmps97
 go_wp2
 go_region
 all_goals (go_wp2;go_ret;exact ⟨rfl,rfl⟩)
set_option maxHeartbeats 2000000 in
set_option maxRecDepth 100000 in
def Tryz.builder_string_nil (b:Nat) (w:World) (hb:w.cell? ⟨b,1,none⟩=some (.slice none 0 0)) :
  Calls Tryz.prog 97 #[.pointer (some ⟨b,0,none⟩)] w fun e w'=>e=.returned (.string ⟨#[]⟩)/\w'=w.drew:=by
 have c1:w.drew.cell? ⟨b,1,none⟩=some (.slice none 0 0):=hb;have J:(Builtin.unsafeSliceData_ #[109] 155 #[.slice none 0 0]).run Tryz.prog w.drew=.ok (.pointer none) w.drew:=rfl;have q:=Lib.run_unsafeString_none (P:=Tryz.prog) w.drew 155 3 9 none
 go_enter Tryz.func97,Tryz.ntmps97
 go_wp2
 go_region
 all_goals (go_wp2;go_ret;exact ⟨rfl,rfl⟩)
end Go.Proofs
end
noncomputable section
namespace Go.Sim
open Go.RowKit Go.Proofs
def M.isByte:AV->Bool
 | .int .u8 n=>decide (0<=n)&&decide (n<256)
 | _=>false
def M.isBytes (xs:List AV):Bool:=xs.all M.isByte
def M.strOf (xs:List AV):List UInt8:=xs.map fun x=>UInt8.ofNat x.toInt.toNat
def xp1 (s:List UInt8):M.strOf (M.byteAVs s)=s:=by
 unfold M.strOf M.byteAVs;rw [List.map_map]
 conv=>rhs;rw [<-List.map_id s]
 exact List.map_congr_left fun u _=>by simp [AV.toInt]
def xoj (s:List UInt8):M.isBytes (M.byteAVs s)=true:=by
 unfold M.isBytes M.byteAVs;rw [zI];intro x hx;obtain ⟨u,_,rfl⟩:=zK.1 hx;have:=u.toNat_lt;simp only [M.isByte,zf,zl];omega
def xoW (s t:List UInt8):M.byteAVs (s++t)=M.byteAVs s++M.byteAVs t:=by simp [M.byteAVs]
def xfS (s:List UInt8):(M.byteAVs s).length=s.length:=by simp [M.byteAVs]
def xzf {x:AV} (h:M.isByte x=true):∃ u:UInt8,x=.int .u8 u.toNat:=by
 unfold M.isByte at h;split at h
 . rename_i n;simp only [zf,zl] at h;refine ⟨UInt8.ofNat n.toNat,?_⟩;have:(UInt8.ofNat n.toNat).toNat=n.toNat:=by rw [UInt8.toNat_ofNat',Nat.mod_eq_of_lt (by omega)]
   rw [this];congr 1;omega
 . simp at h
def xvy (w:World) (g n k:Nat) (h:k≠g):(w.freeze ⟨g,0,none⟩ n).heap[k]?=w.heap[k]?:=by
 unfold World.freeze;split
 . rfl
 . simp [Array.getElem?_modify,Ne.symm h]
def xwz (w:World) (g n:Nat):(w.freeze ⟨g,0,none⟩ n).heap.size=w.heap.size:=by
 unfold World.freeze;split
 . rfl
 . simp
def xAB {w w':World} {A:Nat->Prop} {M:Id->Option MB} {B:Nat} {H:List Box} (hR:HR w A M B H) {id:Nat} {m:MB} {bx:Box} (q:0<m.cap) (hm:M (.b id)=some m) (hb:H[id]?=some bx) (Z:isC bx.ty=false) (aa:bx.frz=false) (V:BoxAt w A M B (.b id) m bx) (v:Nat) (hv:m.ver<v) (sz:Nat) (ty:TypeId) (Q:isC ty=false)
  (hs:w'.heap.size=w.heap.size) (hw:∀ b,b≠m.b->w'.heap[b]?=w.heap[b]?) :
  HR w' A (MSet M (.b id) ⟨m.b,v,sz,0,ty⟩) B (H.set id ⟨v,sz,ty,[],false,true⟩)/\Mv w A M w' A (MSet M (.b id) ⟨m.b,v,sz,0,ty⟩):=by
 have ab:A m.b:=(V.guard q).1 aa;have O:MExt M (MSet M (.b id) ⟨m.b,v,sz,0,ty⟩):=xnN hm (.inr hv);have hw':∀ b,b<w.heap.size->¬ A b->w'.heap[b]?=w.heap[b]?:=fun b _ hA=>hw b fun e=>hA (e▸ab)
 have hc:∀ {p:Prop},0<(0:Nat)->p:=fun h=>absurd h (by omega)
 have J:∀ i m1,MSet M (.b id) ⟨m.b,v,sz,0,ty⟩ i=some m1->0<m1.cap->i≠.b id/\M i=some m1:=fun i m1 h1 h0=>by
  by_cases hi:i=.b id
  . subst hi;simp [MSet] at h1;subst h1;exact absurd h0 (by simp)
  . exact ⟨hi,by simpa [MSet,hi] using h1⟩
 refine ⟨⟨fun i m1 h1=>?_,fun i i' m1 m2 h1 h2 c1 c2 he=>hR.inj i i' m1 m2 (J i m1 h1 c1).2 (J i' m2 h2 c2).2 c1 c2 he,fun b hb=>by rw [hs];exact hR.lt b hb⟩,⟨by omega,hw',fun _ _ h=>h,fun _ _ h _=>h,O,⟨fun b _ hb=>hw b fun e=>hb (.b id) m hm q e.symm,fun i m1 h1 h0=>.inl ⟨i,m1,(J i m1 h1 h0).2,h0,rfl⟩⟩⟩⟩
 by_cases hi:i=.b id
 . subst hi;have:m1=⟨m.b,v,sz,0,ty⟩:=by simp [MSet] at h1;exact h1.symm
   subst this;exact ⟨⟨v,sz,ty,[],false,true⟩,by rw [xcb,zL (xdB hb)],rfl,rfl,xbS Q,zQ _,zQ _,fun x hx=>by simp at hx,hc,hc,hc,hc⟩
 . have W:M i=some m1:=by simpa [MSet,hi] using h1
   obtain ⟨Y,g1,g2⟩:=hR.box i m1 W;exact ⟨Y,by rw [xdU hb Z Q hi];exact g1,g2.mono (fun h0=>hw _ fun e=>hi (hR.inj i (.b id) m1 m W hm h0 q e)) hw' (by omega) (fun _ _ h=>h) g2.guard O⟩
def xma {w:World} {A:Nat->Prop} {M:Id->Option MB} {B:Nat} {H:List Box} (hR:HR w A M B H) {v:Value} {a x:AV} {ty:TypeId} {frz pm:Bool} (J:isC ty=false) (hv:Rel w A M v (.own (.b 0) 0 0 0)) (hb:H[0]?=some ⟨0,2,ty,[.agg [a,x]],frz,pm⟩) :
  ∃ m c,M (.b 0)=some m/\BoxAt w A M B (.b 0) m ⟨0,2,ty,[.agg [a,x]],frz,pm⟩/\1<=m.cap/\v=.pointer (some ⟨m.b,0,none⟩)/\w.heap[m.b]?=some (.cells c ty (0,0))/\c.size=m.cap*2/\m.sz=2 /\
   Rel w A (MP M pm) (c.getD 0 undef) a/\Rel w A (MP M pm) (c.getD 1 undef) x/\w.cell? ⟨m.b,0,none⟩=some (c.getD 0 undef)/\w.cell? ⟨m.b,1,none⟩=some (c.getD 1 undef):=by
 obtain ⟨m,hm,q,hp⟩:=xln hR hv (xle hb J);have hcap:1<=m.cap:=q.fits;have hsz:m.sz=2:=q.sz.symm;obtain ⟨c,h1,h2,h3⟩:=q.plainCells J (by omega)
 rw [hsz] at h2;have r0:=h3 0 0 (by simp) (by omega)
 have r1:=h3 0 1 (by simp) (by omega)
 have h1:w.heap[m.b]?=some (.cells c ty (0,0)):=h1;have e0:w.cell? ⟨m.b,0,none⟩=some (c.getD 0 undef):=by
  have:0<c.size:=by omega
  simp [World.cell?,h1,this]
 have e1:w.cell? ⟨m.b,1,none⟩=some (c.getD 1 undef):=by
  have:1<c.size:=by omega
  simp [World.cell?,h1,this]
 refine ⟨m,c,hm,q,hcap,by simpa using hp,h1,h2,hsz,by simpa [AV.cells] using r0,by simpa [AV.cells] using r1,e0,e1⟩
def xoC:List AV->List Box->Option (Bool×AV×List Box)
 | [.own (.b 0) 0 0 0],⟨0,2,ty,[.agg [.nilptr,x]],false,pm⟩::r=>match Nat.beq ty 111 with
  | true=>some (true,.tuple [],⟨0,2,ty,[.agg [.own (.b 0) 0 0 0,x]],false,false⟩::r)
  | false=>none
 | [.own (.b 0) 0 0 0],⟨0,2,ty,[.agg [.own (.b 0) 0 0 0,x]],false,pm⟩::r=>match Nat.beq ty 111 with
  | true=>some (true,.tuple [],⟨0,2,ty,[.agg [.own (.b 0) 0 0 0,x]],false,pm⟩::r)
  | false=>none
 | _,_=>none
def xwv:OmOk Tryz.prog xIO 130 xoC:=fun xs H r H' h=>by
 unfold xoC at h;split at h
 . rename_i ty x pm rest;split at h
   case h_2=>simp at h
   rename_i J;have J:=zg J;subst J;simp only [z6,zb,true_and] at h;obtain ⟨rfl,rfl⟩:=h;refine ⟨xdT Tryz.func130 rfl (by kernel_rfl),fun w0 w A M vs hI hB hR Q=>?_⟩
   obtain ⟨v,rfl,hv⟩:=rc1 Q;obtain ⟨m,c,hm,q,hcap,rfl,hh,O,hsz,r0,r1,e0,e1⟩:=xma hR (by rfl) hv rfl
   have hn:c.getD 0 undef=.pointer none:=by
    revert r0;generalize c.getD 0 undef=z;intro r0;cases r0;rfl
   rw [hn] at e0;refine (Tryz.copyCheck_fresh m.b m.cap hcap w e0 (by simp [World.shape?,hh,O]) (Lib.frozen_of_heap hh 0)).mono ?_
   rintro e w' ⟨rfl,rfl⟩;rw [setCell_eq_setRow w m.b 0 c _ _ _ hh];have aa:x.one=true:=by
    have:=q.ok (.agg [.nilptr,x]) (by simp)
    simp only [AV.okElem,AV.cells,List.all_cons,zf] at this;exact this.2.2.1
   have W:(0:Nat)=m.ver:=q.ver;obtain ⟨g1,g2,g3,g4,gt,g5⟩:=xno (m':=m) (bx':=⟨0,2,111,[.agg [.own (.b 0) 0 0 0,x]],false,false⟩) hR (by omega) hm rfl q rfl rfl rfl (c':=c.setIfInBounds 0 (.pointer (some ⟨m.b,0,none⟩))) rfl rfl rfl rfl (.inl rfl)
    W (by rw [hsz]) (by have:=q.ty;rw [xbS rfl] at this;exact this) rfl hcap (fun y hy=>by
     simp only [zv] at hy;subst hy;rw [hsz];simp [AV.okElem,AV.cells,aa,show (AV.own (.b 0) 0 0 0).one=true from rfl]) (by rw [hsz];simpa using O) (fun i j hi hj=>by
     have Y:i=0:=by simpa using hi
     subst Y;rw [hsz] at hj |-;have Z:0<c.size:=by omega
     have ac:1<c.size:=by omega
     match j,hj with
     | 0,_ =>
      have:(c.setIfInBounds 0 (.pointer (some ⟨m.b,0,none⟩))).getD (0*2+0) undef=.pointer (some ⟨m.b,0,none⟩):=by simp [Z]
      rw [this];exact .own _ (.b 0) 0 0 0 m hm (by omega) rfl (fun _=>by rw [xka (q.nomap rfl)];simp)
     | 1,_ =>
      have:(c.setIfInBounds 0 (.pointer (some ⟨m.b,0,none⟩))).getD (0*2+1) undef=c.getD 1 undef:=by simp [Array.getElem?_setIfInBounds]
      rw [this];exact r1.unmp)
   exact ⟨_,A,_,rfl,hB.trans g4,fun _ _=>Iff.rfl,Ev.refl.step ⟨by simp [World.setRow],g3,fun _ _ h=>h,fun _ _ h _=>h,g2,gt⟩,by simpa using g1,.tuple #[] [] rfl (by simp)⟩
 . rename_i ty x pm rest;split at h
   case h_2=>simp at h
   rename_i J;have J:=zg J;subst J;simp only [z6,zb,true_and] at h;obtain ⟨rfl,rfl⟩:=h;refine ⟨xdT Tryz.func130 rfl (by kernel_rfl),fun w0 w A M vs hI hB hR Q=>?_⟩
   obtain ⟨v,rfl,hv⟩:=rc1 Q;obtain ⟨m,c,hm,q,hcap,rfl,hh,O,hsz,r0,r1,e0,e1⟩:=xma hR (by rfl) hv rfl
   obtain ⟨m',V,ab,hp⟩:=xln hR r0.unmp (xle (n:=0) (bx:=⟨0,2,111,[.agg [.own (.b 0) 0 0 0,x]],false,pm⟩) rfl rfl);rw [hm] at V;obtain rfl:=(z6 _ _).mp V;rw [hp] at e0;refine (Tryz.copyCheck_used m.b w (by simpa using e0)).mono ?_
   rintro e w' ⟨rfl,rfl⟩;exact ⟨_,A,M,rfl,hB,fun _ _=>Iff.rfl,Ev.refl,hR,.tuple #[] [] rfl (by simp)⟩
 . simp at h
def xkp:List AV->List Box->Option (Bool×AV×List Box)
 | [.own (.b 0) 0 0 0],[⟨0,2,ty,[.agg [a,.osl (.b 1) u 0 n]],false,pm⟩,⟨u',1,ty',bs,false,pm'⟩]=>match Nat.beq ty 111&&(Nat.beq ty' 5&&Nat.beq u u') with
  | true=>some ((decide (n=bs.length)&&M.isBytes bs)&&decide (bs.length≠0),.str (M.strOf bs),[⟨0,2,ty,[.agg [a,.osl (.b 1) u 0 n]],false,pm⟩,⟨u+1,1,ty',[],false,true⟩])
  | false=>none
 | [.own (.b 0) 0 0 0],⟨0,2,ty,[.agg [a,.nils]],false,pm⟩::r=>match Nat.beq ty 111 with
  | true=>some (true,.str [],⟨0,2,ty,[.agg [a,.nils]],false,pm⟩::r)
  | false=>none
 | _,_=>none
def xrL:OmOk Tryz.prog xIO 97 xkp:=fun xs H r H' h=>by
 unfold xkp at h;split at h
 . rename_i ty a u n pm u' am bs af;split at h
   case h_2=>simp at h
   rename_i O;simp only [zf] at O;obtain ⟨h1,h2,h3⟩:=O;have h1:=zg h1;have h2:=zg h2;have h3:=zg h3;subst h1 h2 h3;simp only [z6,zb,zf,zl] at h;obtain ⟨⟨⟨rfl,ae⟩,hne⟩,rfl,rfl⟩:=h;refine ⟨xdT Tryz.func97 rfl (by kernel_rfl),fun w0 w A MM vs hI hB hR W=>?_⟩
   obtain ⟨v,rfl,hv⟩:=rc1 W;obtain ⟨m,c,hm,Z,hcap,rfl,hh,ad,hsz,r0,r1,e0,e1⟩:=xma hR (by rfl) hv rfl
   obtain ⟨m1,a1,ah,q,aj,ag,ac⟩:=xjh hR r1.unmp (xle (n:=1) (bx:=⟨u,1,5,bs,false,af⟩) rfl rfl);have J:0<m1.cap:=by have:=q.fits;simp only at this;omega
   have ha:=ac J;subst ha;obtain ⟨c1,k1,k2,k3⟩:=q.plainCells rfl J;have Q:m1.sz=1:=q.sz.symm;have ak:5=m1.ty:=by have:=q.ty;rw [xbS rfl] at this;exact this
   rw [ag] at e1;simp only [Nat.zero_mul,Nat.sub_zero] at e1;have hl:(M.strOf bs).length=bs.length:=by simp [M.strOf]
   have V:∀ j,j<bs.length->∃ uu:UInt8,bs.getD j .top=.int .u8 uu.toNat/\(M.strOf bs)[j]?=some uu/\w.cell? ⟨m1.b,j,none⟩=some (.int .u8 uu.toNat):=fun j hj=>by
    have ai:bs.getD j .top∈bs:=xbe hj;obtain ⟨uu,hu⟩:=xzf (zI.1 ae _ ai);refine ⟨uu,hu,?_,?_⟩
    . have:bs[j]?=some (bs.getD j .top):=xox hj;simp only [M.strOf,List.getElem?_map,this,hu,Option.map_some,AV.toInt,zN,UInt8.ofNat_toNat]
    . have hr:=k3 j 0 hj (by omega)
      rw [Q,hu] at hr;simp only [Nat.mul_one,Nat.add_zero,AV.cells,List.getD_cons_zero] at hr;have:=hr.int_inv;have Y:j<c1.size:=by have:=q.fits;simp only at this;rw [k2,Q];omega
      simp only [World.cell?,k1];have e2:c1.getD j undef=c1[j]:=by simp [Y]
      rw [e2] at this;simp [Y,this]
   refine (Tryz.builder_string m.b m1.b m1.cap (M.strOf bs) c1 w (by rw [hl];exact e1) k1 (fun j x hx=>by
    have hj:j<bs.length:=by
     rcases zJ j bs.length with h'|h'
     . exact h'
     . rw [zz (by omega)] at hx;simp at hx
    obtain ⟨uu,g1,g2,g3⟩:=V j hj;rw [g2] at hx;obtain rfl:=(z6 _ _).mp hx;by_cases ab:j=0
    . subst ab;simpa [Addr.add] using g3
    . simpa [Addr.add,ab] using g3) (by rw [hl,k2,Q];have:=q.fits;simp only at this;omega) (by omega) (fun e=>hne (by rw [<-hl,e];rfl)) (by rw [hl];have h1:=q.fits;have h2:=q.capm;simp only at h1;unfold maxLen at h2;omega)).mono ?_
   rintro e w' ⟨rfl,rfl⟩;rw [hl];have aa:=q.low J;obtain ⟨g1,g2⟩:=xAB hR J ah rfl rfl rfl q (u+1) (by have:=q.ver;simp only at this;omega) 1 5 rfl (w':=w.drew.freeze ⟨m1.b,0,none⟩ bs.length) (by rw [xwz];rfl) (fun b hb=>by rw [xvy _ _ _ _ hb];rfl)
   exact ⟨_,A,_,rfl,Lib.below_freeze (hB.drew) (p:=⟨m1.b,0,none⟩) aa _,fun _ _=>Iff.rfl,Ev.refl.step g2,by simpa using g1,.str _⟩
 . rename_i ty a pm rest al;split at h
   case h_2=>simp at h
   rename_i O;have O:=zg O;subst O;simp only [z6,zb,true_and] at h;obtain ⟨rfl,rfl⟩:=h;refine ⟨xdT Tryz.func97 rfl (by kernel_rfl),fun w0 w A MM vs hI hB hR W=>?_⟩
   obtain ⟨v,rfl,hv⟩:=rc1 W;obtain ⟨m,c,hm,Z,hcap,rfl,hh,ad,hsz,r0,r1,e0,e1⟩:=xma hR (by rfl) hv rfl
   have hn:c.getD 1 undef=.slice none 0 0:=by
    revert r1;generalize c.getD 1 undef=z;intro r1;cases r1;rfl
   rw [hn] at e1;refine (Tryz.builder_string_nil m.b w e1).mono ?_;rintro e w' ⟨rfl,rfl⟩;exact ⟨_,A,MM,rfl,hB.drew,fun _ _=>Iff.rfl,Ev.refl.step ⟨zd _,fun _ _ _=>rfl,fun _ _ h=>h,fun _ _ h _=>h,MExt.refl MM,⟨fun _ _ _=>rfl,fun i m1 h1 h0=>.inl ⟨i,m1,h1,h0,rfl⟩⟩⟩,hR.drew,.str _⟩
 . simp at h
end Go.Sim
end
noncomputable section
namespace Go.Sim
open Go.RowKit
variable {α β γ : Type}
structure Pat (α β:Type) where
 enc:β->α
 dec:α->Option β
 ok:∀ a b,dec a=some b->a=enc b
def xIT:Pat α α:=⟨fun b=>b,some,fun a b h=>by simpa using h⟩
def pInt (k:IntKind):Pat AV Int:=⟨.int k,fun v=>match v with
 | .int k' n=>match decide (k'=k) with
  | true=>some n
  | false=>none
 | _=>none,fun v n h=>by
 split at h
 . split at h
   . rename_i hk;simp only [z6] at h;rw [of_decide_eq_true hk,h]
   . simp at h
 . simp at h⟩
def pStr:Pat AV (List UInt8):=⟨.str,fun v=>match v with
 | .str s=>some s
 | _=>none,fun v n h=>by
 split at h
 . simp only [z6] at h;rw [h]
 . simp at h⟩
def pBool:Pat AV Bool:=⟨.bool,fun v=>match v with
 | .bool s=>some s
 | _=>none,fun v n h=>by
 split at h
 . simp only [z6] at h;rw [h]
 . simp at h⟩
def xI6 (sz:Nat) (q:Pat (List AV) β):Pat AV β:=⟨fun b=>.list sz (q.enc b),fun v=>match v with
 | .list z xs=>match Nat.beq z sz with
  | true=>q.dec xs
  | false=>none
 | _=>none,fun v n h=>by
 split at h
 . split at h
   . rename_i hz;rw [zg hz,q.ok _ _ h]
   . simp at h
 . simp at h⟩
def xI0 (id ver off:Nat):Pat AV Nat:=⟨.osl id ver off,fun v=>match v with
 | .osl (.b i) e o n=>match Nat.beq i id&&(Nat.beq e ver&&Nat.beq o off) with
  | true=>some n
  | false=>none
 | _=>none,fun v n h=>by
 split at h
 . split at h
   . rename_i hz;simp only [zf] at hz;simp only [z6] at h;rw [zg hz.1,zg hz.2.1,zg hz.2.2,h]
   . simp at h
 . simp at h⟩
def pOslV (id off:Nat):Pat AV (Nat×Nat):=⟨fun p=>.osl id p.1 off p.2,fun v=>match v with
 | .osl (.b i) e o n=>match Nat.beq i id&&Nat.beq o off with
  | true=>some (e,n)
  | false=>none
 | _=>none,fun v n h=>by
 split at h
 . split at h
   . rename_i hz;simp only [zf] at hz;simp only [z6] at h;rw [zg hz.1,zg hz.2,<-h]
   . simp at h
 . simp at h⟩
def pOwnV (id j:Nat):Pat AV (Nat×Nat):=⟨fun p=>.own id p.1 p.2 j,fun v=>match v with
 | .own (.b a) b c d=>match Nat.beq a id&&Nat.beq d j with
  | true=>some (b,c)
  | false=>none
 | _=>none,fun v n h=>by
 split at h
 . split at h
   . rename_i hz;simp only [zf] at hz;simp only [z6] at h;rw [zg hz.1,zg hz.2,<-h]
   . simp at h
 . simp at h⟩
def xI1 (id ver i j:Nat):Pat AV Unit:=⟨fun _=>.own id ver i j,fun v=>match v with
 | .own (.b a) b c d=>match Nat.beq a id&&(Nat.beq b ver&&(Nat.beq c i&&Nat.beq d j)) with
  | true=>some ()
  | false=>none
 | _=>none,fun v n h=>by
 split at h
 . split at h
   . rename_i hz;simp only [zf] at hz;rw [zg hz.1,zg hz.2.1,zg hz.2.2.1,zg hz.2.2.2]
   . simp at h
 . simp at h⟩
def pEptr (sz i j:Nat) (q:Pat (List AV) β):Pat AV β:=⟨fun b=>.eptr sz (q.enc b) i j,fun v=>match v with
 | .eptr a xs c d=>match Nat.beq a sz&&(Nat.beq c i&&Nat.beq d j) with
  | true=>q.dec xs
  | false=>none
 | _=>none,fun v n h=>by
 split at h
 . split at h
   . rename_i hz;simp only [zf] at hz;rw [zg hz.1,zg hz.2.1,zg hz.2.2,q.ok _ _ h]
   . simp at h
 . simp at h⟩
def xI2 (q:Pat (List AV) β):Pat AV β:=⟨fun b=>.agg (q.enc b),fun v=>match v with
 | .agg cs=>q.dec cs
 | _=>none,fun v n h=>by
 split at h
 . rw [q.ok _ _ h]
 . simp at h⟩
def xIt (f:Nat) (q:Pat (List AV) β):Pat AV β:=⟨fun b=>.func f (q.enc b),fun v=>match v with
 | .func g cs=>match Nat.beq g f with
  | true=>q.dec cs
  | false=>none
 | _=>none,fun v n h=>by
 split at h
 . split at h
   . rename_i hz;rw [zg hz,q.ok _ _ h]
   . simp at h
 . simp at h⟩
def pNils:Pat AV Unit:=⟨fun _=>.nils,fun v=>match v with
 | .nils=>some ()
 | _=>none,fun v n h=>by
 split at h
 . rfl
 . simp at h⟩
def pNilptr:Pat AV Unit:=⟨fun _=>.nilptr,fun v=>match v with
 | .nilptr=>some ()
 | _=>none,fun v n h=>by
 split at h
 . rfl
 . simp at h⟩
def xIR:Pat (List α) Unit:=⟨fun _=>[],fun v=>match v with
 | []=>some ()
 | _=>none,fun v n h=>by
 split at h
 . rfl
 . simp at h⟩
def xIP (p:Pat α β) (q:Pat (List α) γ):Pat (List α) (β×γ):=⟨fun b=>p.enc b.1::q.enc b.2,fun v=>match v with
 | x::t=>match p.dec x with
  | some b=>match q.dec t with
   | some c=>some (b,c)
   | none=>none
  | none=>none
 | _=>none,fun v n h=>by
 split at h
 . split at h
   . rename_i hp;split at h
     . rename_i hq;cases h;rw [p.ok _ _ hp,q.ok _ _ hq]
     . simp at h
   . simp at h
 . simp at h⟩
def xI3 (ver sz ty:Nat) (frz pm:Bool) (q:Pat (List AV) β):Pat Box β:=⟨fun b=>⟨ver,sz,ty,q.enc b,frz,pm⟩,fun v=>match v with
 | ⟨a,b,c,xs,f,p⟩=>match Nat.beq a ver&&(Nat.beq b sz&&(Nat.beq c ty&&((f==frz)&&(p==pm)))) with
  | true=>q.dec xs
  | false=>none,fun v n h=>by
 obtain ⟨a,b,c,xs,f,p⟩:=v;dsimp only at h;split at h
 . rename_i hz;simp only [zf,beq_iff_eq] at hz;rw [zg hz.1,zg hz.2.1,zg hz.2.2.1,hz.2.2.2.1,hz.2.2.2.2,q.ok _ _ h]
 . simp at h⟩
def pBoxV (sz ty:Nat) (frz pm:Bool) (q:Pat (List AV) β):Pat Box (Nat×β):=⟨fun b=>⟨b.1,sz,ty,q.enc b.2,frz,pm⟩,fun v=>match v with
 | ⟨a,b,c,xs,f,p⟩=>match Nat.beq b sz&&(Nat.beq c ty&&((f==frz)&&(p==pm))) with
  | true=>match q.dec xs with
   | some y=>some (a,y)
   | none=>none
  | false=>none,fun v n h=>by
 obtain ⟨a,b,c,xs,f,p⟩:=v;dsimp only at h;split at h
 . rename_i hz;simp only [zf,beq_iff_eq] at hz;split at h
   . rename_i y hy;simp only [z6] at h;rw [zg hz.1,zg hz.2.1,hz.2.2.1,hz.2.2.2,<-h,q.ok _ _ hy]
   . simp at h
 . simp at h⟩
def Sub (a b:AV):Prop:=∀ (w:World) (A:Nat->Prop) (M:Id->Option MB) (v:Value),Rel w A M v a->Rel w A M v b
def SubL (aS bs:List AV):Prop:=aS.length=bs.length/\∀ i,i<aS.length->Sub (aS.getD i .top) (bs.getD i .top)
def Sub.refl (a:AV):Sub a a:=fun _ _ _ _ h=>h
def Sub.of_eq {a b:AV} (h:a=b):Sub a b:=h▸Sub.refl a
def xCH (sz:Nat):Sub .nils (.list sz []):=fun w A M v h=>by
 cases h;exact .list0 _ _ _
def xD6 {aS bs:List AV} (h:SubL aS bs):Sub (.agg aS) (.agg bs):=fun w A M v hr=>by
 obtain ⟨vs,rfl,h1,h2⟩:=hr.agg_inv;exact .agg vs bs (h1.trans h.1) fun i hi=>h.2 i (h.1.symm▸hi) w A M _ (h2 i (h.1.symm▸hi))
def xA9 {w:World} {A:Nat->Prop} {M:Id->Option MB} {vs:List Value} {aS bs:List AV} (h:SubL aS bs) (hr:RC w A M vs aS):RC w A M vs bs :=
 ⟨hr.1.trans h.1,fun i hi=>h.2 i (h.1.symm▸hi) w A M _ (hr.2 i (h.1.symm▸hi))⟩
structure SPat (β:Type) where
 enc:β->AV
 dec:AV->Option β
 ok:∀ a b,dec a=some b->Sub a (enc b)
structure SPatL (β:Type) where
 enc:β->List AV
 dec:List AV->Option β
 ok:∀ a b,dec a=some b->SubL a (enc b)
def sEq (p:Pat AV β):SPat β:=⟨p.enc,p.dec,fun a b h=>Sub.of_eq (p.ok a b h)⟩
def xI4 (sz:Nat) (q:Pat (List AV) β):SPat β:=⟨fun b=>.list sz (q.enc b),fun v=>match v with
 | .nils=>q.dec []
 | .list z xs=>match Nat.beq z sz with
  | true=>q.dec xs
  | false=>none
 | _=>none,fun v n h=>by
 split at h
 . rw [<-q.ok _ _ h];exact xCH sz
 . split at h
   . rename_i hz;rw [zg hz,q.ok _ _ h];exact Sub.refl _
   . simp at h
 . simp at h⟩
def xI5 (q:SPatL β):SPat β:=⟨fun b=>.agg (q.enc b),fun v=>match v with
 | .agg cs=>q.dec cs
 | _=>none,fun v n h=>by
 split at h
 . exact xD6 (q.ok _ _ h)
 . simp at h⟩
def xIS:SPatL Unit:=⟨fun _=>[],fun v=>match v with
 | []=>some ()
 | _=>none,fun v n h=>by
 split at h
 . exact ⟨rfl,fun i hi=>by simp at hi⟩
 . simp at h⟩
def xIQ (p:SPat β) (q:SPatL γ):SPatL (β×γ):=⟨fun b=>p.enc b.1::q.enc b.2,fun v=>match v with
 | x::t=>match p.dec x with
  | some b=>match q.dec t with
   | some c=>some (b,c)
   | none=>none
  | none=>none
 | _=>none,fun v n h=>by
 split at h
 . split at h
   . rename_i hp;split at h
     . rename_i hq;cases h;obtain ⟨h1,h2⟩:=q.ok _ _ hq;refine ⟨by simp [h1],fun i hi=>?_⟩
       cases i with
       | zero=>exact p.ok _ _ hp
       | succ i=>exact h2 i (by simpa using hi)
     . simp at h
   . simp at h
 . simp at h⟩
def ocOf (pv:SPatL β) (g:β->Bool×AV):List AV->Option (Bool×AV):=fun xs=>match pv.dec xs with
 | some b=>some (g b)
 | none=>none
def omOf (pv:SPatL β) (pb:Pat (List Box) γ) (g:β->γ->Bool×AV×List Box):List AV->List Box->Option (Bool×AV×List Box):=fun xs H=>match pv.dec xs with
 | some b=>match pb.dec H with
  | some c=>some (g b c)
  | none=>none
 | none=>none
def lpOf (live liveO:List Nat) (conv:List (Nat×Nat×TypeId)) (pv:Pat (List AV) β) (pb:Pat (List Box) γ) (g:β->γ->Bool×LR):Lp:=⟨live,liveO,conv,fun xs H=>match pv.dec xs with
 | some b=>match pb.dec H with
  | some c=>some (g b c)
  | none=>none
 | none=>none⟩
section
variable {P : Program} {Inv : IV}
def xo2 {n:FuncId} {pv:SPatL β} {g:β->Bool×AV} (h:∀ b r,g b=(true,r)->Good P Inv n (pv.enc b) r):OcOk P Inv n (ocOf pv g):=fun xs r e=>by
 unfold ocOf at e;split at e
 . rename_i b hb;simp only [z6] at e;obtain ⟨h1,h2⟩:=h b r e;exact ⟨h1,fun w A vs hi ha hr=>h2 w A vs hi ha (xA9 (pv.ok _ _ hb) hr)⟩
 . simp at e
def xjK {n:FuncId} {pv:SPatL β} {pb:Pat (List Box) γ} {g:β->γ->Bool×AV×List Box} (h:∀ b c r H',g b c=(true,r,H')->GoodM P Inv n (pv.enc b) (pb.enc c) r H'):OmOk P Inv n (omOf pv pb g):=fun xs H r H' e=>by
 unfold omOf at e;split at e
 . rename_i b hb;split at e
   . rename_i c hc;simp only [z6] at e;rw [pb.ok _ _ hc];obtain ⟨h1,h2⟩:=h b c r H' e;exact ⟨h1,fun w0 w A M vs hi q hR hr=>h2 w0 w A M vs hi q hR (xA9 (pv.ok _ _ hb) hr)⟩
   . simp at e
 . simp at e
def xAX {nt:Nat} {l:Code} {live liveO:List Nat} {conv:List (Nat×Nat×TypeId)} {pv:Pat (List AV) β} {pb:Pat (List Box) γ} {g:β->γ->Bool×LR}
  (h:∀ b c r,g b c=(true,r)->DoesL P Inv l (fun e1 s1=>e1=r.eval.1/\s1=⟨mkTs nt (liveO.zip r.eval.2.1),r.eval.2.2⟩) ⟨mkTs nt (live.zip (pv.enc b)),pb.enc c⟩):LoopOk P Inv nt l (lpOf live liveO conv pv pb g):=fun vals H r e=>by
 unfold lpOf at e;dsimp only at e;split at e
 . rename_i b hb;split at e
   . rename_i c hc;simp only [z6] at e;rw [pv.ok _ _ hb,pb.ok _ _ hc];exact h b c r e
   . simp at e
 . simp at e
end
def xeI {x:Option α} {d:α} (h:x.isSome=true):x=some (x.getD d):=by
 cases x with
 | none=>simp at h
 | some y=>rfl
end Go.Sim
end
noncomputable section
namespace Go.Sim.M
open Go.RowKit Go.Proofs
def E0:Env:=(((Env.none.with 190 xj3).with 95 xl6).withM 130 xoC).withM 97 xkp
def xFV:xH6 Tryz.prog xIO E0:=(((xzm.with xra).with xtN).withM xwv).withM xrL
end Go.Sim.M
end
noncomputable section
namespace Go.Sim
open Go.RowKit
def EncS {α:Type} (f:α->AV) (a:Option α) (b:Option AV):Prop:=∀ r,a=some r->∃ x,b=some x/\Sub x (f r)
def EncS.none {α:Type} {f:α->AV} {b:Option AV}:EncS f .none b:=fun r h=>by simp at h
def EncS.some {α:Type} {f:α->AV} {a:α} {b:AV} (h:Sub b (f a)):EncS f (Option.some a) (Option.some b):=fun r e=>by cases e;exact ⟨b,rfl,h⟩
def EncS.br {α:Type} {f:α->AV} {t:Bool} {a a':Option α} {b b':Option AV} (h1:EncS f a b) (h2:EncS f a' b'):EncS f (Sim.br t a a') (Sim.br t b b'):=by cases t<;>assumption
def Good.sub {P:Program} {Inv:IV} {f:FuncId} {args:List AV} {r r':AV} (h:Good P Inv f args r) (hs:Sub r r'):Good P Inv f args r' :=
 ⟨h.1,fun w A vs hI hA q=>(h.2 w A vs hI hA q).mono fun e w' ⟨v,he,hb,hr⟩=>⟨v,he,hb,hs w' A xIj v hr⟩⟩
def GoodM.bump1 {P:Program} {Inv:IV} {f:FuncId} {args:List AV} {H:List Box} {v v' k sz:Nat} {ty:TypeId} {xs:List AV} {frz pm:Bool} (Q:isC ty=false) (hv:v<v')
  (h:GoodM P Inv f args H (.osl (.b 0) v 0 k) [⟨v,sz,ty,xs,frz,pm⟩]):GoodM P Inv f args H (.osl (.b 0) v' 0 k) [⟨v',sz,ty,xs,frz,pm⟩]:=by
 refine ⟨h.1,fun w0 w A M vs hI hB hR W=>(h.2 w0 w A M vs hI hB hR W).mono ?_⟩
 rintro e w' ⟨u,A',M',rfl,h1,h2,h3,h4,h5⟩;obtain ⟨m,g1,g2,g3,g4⟩:=Rel.osl_inv h5;obtain ⟨bx,q1,q2⟩:=h4.box _ m g1;have:bx=⟨v,sz,ty,xs,frz,pm⟩:=by
  have:=q1;rw [xcb] at this;simpa using this.symm
 subst this;have V:v=m.ver:=q2.ver;have O:MExt M' (MSet M' (.b 0) ⟨m.b,v',m.sz,m.cap,m.ty⟩):=xnN g1 (.inr (by simp only;omega))
 have J:∀ id m1,MSet M' (.b 0) ⟨m.b,v',m.sz,m.cap,m.ty⟩ id=some m1->∃ m0,M' id=some m0/\m1.b=m0.b/\m1.cap=m0.cap:=fun id m1 q=>by
  by_cases hi:id=.b 0
  . subst hi;simp [MSet] at q;subst q;exact ⟨m,g1,rfl,rfl⟩
  . exact ⟨m1,by simpa [MSet,hi] using q,rfl,rfl⟩
 have hR':HR w' A' (MSet M' (.b 0) ⟨m.b,v',m.sz,m.cap,m.ty⟩) w0.heap.size [⟨v',sz,ty,xs,frz,pm⟩]:=by
  refine ⟨fun id m1 q=>?_,fun id id' m1 m2 k1 k2 c1 c2 he=>?_,h4.lt⟩
  . by_cases hi:id=.b 0
    . subst hi;have:m1=⟨m.b,v',m.sz,m.cap,m.ty⟩:=by simp [MSet] at q;exact q.symm
      subst this;have q3:=q2.mono (w':=w') (fun _=>rfl) (fun _ _ _=>rfl) (zd _) (fun _ _ h=>h) q2.guard O
      exact ⟨⟨v',sz,ty,xs,frz,pm⟩,rfl,rfl,q3.sz,q3.ty,q3.capm,q3.fits,q3.ok,q3.low,q3.lt,q3.cells,q3.guard⟩
    . have Y:M' id=some m1:=by simpa [MSet,hi] using q
      obtain ⟨bx,k1,k2⟩:=h4.box id m1 Y;have k3:getB [⟨v',sz,ty,xs,frz,pm⟩] id=some bx:=by
       rw [<-k1];exact xdU (H:=[⟨v,sz,ty,xs,frz,pm⟩]) (n:=0) (bx:=⟨v,sz,ty,xs,frz,pm⟩) (bx':=⟨v',sz,ty,xs,frz,pm⟩) rfl Q Q hi
      exact ⟨bx,k3,k2.mono (fun _=>rfl) (fun _ _ _=>rfl) (zd _) (fun _ _ h=>h) k2.guard O⟩
  . obtain ⟨n1,a1,a2,a3⟩:=J id m1 k1;obtain ⟨n2,b1,b2,b3⟩:=J id' m2 k2;exact h4.inj id id' n1 n2 a1 b1 (by omega) (by omega) (by rw [<-a2,<-b2,he])
 refine ⟨u,A',MSet M' (.b 0) ⟨m.b,v',m.sz,m.cap,m.ty⟩,rfl,h1,h2,h3.step ⟨zd _,fun _ _ _=>rfl,fun _ _ h=>h,fun _ _ h _=>h,O,⟨fun _ _ _=>rfl,fun id m1 q h0=>?_⟩⟩,hR',?_⟩
 . obtain ⟨n1,a1,a2,a3⟩:=J id m1 q;exact .inl ⟨id,n1,a1,by omega,a2⟩
 . exact .osl u (.b 0) v' 0 k ⟨m.b,v',m.sz,m.cap,m.ty⟩ (by simp [MSet]) (zd _) g3 fun _=>g4 V
end Go.Sim
end
noncomputable section
namespace Go.Sim
open Go.RowKit Go.Proofs
noncomputable abbrev P0:Program:=Tryz.prog
section
variable {α β γ ρ σ : Type}
def qI:Pat AV Int:=pInt .i64
def qL (k:Nat):Pat AV (List AV):=xI6 k xIT
def qB {β:Type} (v s t:Nat) (q:Pat (List AV) β):Pat Box β:=xI3 v s t false true q
def bF (v s t:Nat) (x:List AV):Box:=⟨v,s,t,x,false,true⟩
def uI:SPat Int:=sEq qI
def uL (k:Nat):SPat (List AV):=xI4 k xIT
def q1 {α α0:Type} (a:Pat α α0):Pat (List α) (α0×Unit):=xIP a (xIR)
def q2 {α α0 α1:Type} (a:Pat α α0) (b:Pat α α1):Pat (List α) (α0×α1×Unit):=xIP a (xIP b (xIR))
def q3 {α α0 α1 α2:Type} (a:Pat α α0) (b:Pat α α1) (c:Pat α α2):Pat (List α) (α0×α1×α2×Unit):=xIP a (xIP b (xIP c (xIR)))
def q4 {α α0 α1 α2 α3:Type} (a:Pat α α0) (b:Pat α α1) (c:Pat α α2) (d:Pat α α3):Pat (List α) (α0×α1×α2×α3×Unit):=xIP a (xIP b (xIP c (xIP d (xIR))))
def q5 {α α0 α1 α2 α3 α4:Type} (a:Pat α α0) (b:Pat α α1) (c:Pat α α2) (d:Pat α α3) (e:Pat α α4):Pat (List α) (α0×α1×α2×α3×α4×Unit):=xIP a (xIP b (xIP c (xIP d (xIP e (xIR)))))
def q6 {α α0 α1 α2 α3 α4 α5:Type} (a:Pat α α0) (b:Pat α α1) (c:Pat α α2) (d:Pat α α3) (e:Pat α α4) (f:Pat α α5):Pat (List α) (α0×α1×α2×α3×α4×α5×Unit):=xIP a (xIP b (xIP c (xIP d (xIP e (xIP f (xIR))))))
def q7 {α α0 α1 α2 α3 α4 α5 α6:Type} (a:Pat α α0) (b:Pat α α1) (c:Pat α α2) (d:Pat α α3) (e:Pat α α4) (f:Pat α α5) (g:Pat α α6):Pat (List α) (α0×α1×α2×α3×α4×α5×α6×Unit):=xIP a (xIP b (xIP c (xIP d (xIP e (xIP f (xIP g (xIR)))))))
def q8 {α α0 α1 α2 α3 α4 α5 α6 α7:Type} (a:Pat α α0) (b:Pat α α1) (c:Pat α α2) (d:Pat α α3) (e:Pat α α4) (f:Pat α α5) (g:Pat α α6) (h:Pat α α7):Pat (List α) (α0×α1×α2×α3×α4×α5×α6×α7×Unit):=xIP a (xIP b (xIP c (xIP d (xIP e (xIP f (xIP g (xIP h (xIR))))))))
def q9 {α α0 α1 α2 α3 α4 α5 α6 α7 α8:Type} (a:Pat α α0) (b:Pat α α1) (c:Pat α α2) (d:Pat α α3) (e:Pat α α4) (f:Pat α α5) (g:Pat α α6) (h:Pat α α7) (i:Pat α α8):Pat (List α) (α0×α1×α2×α3×α4×α5×α6×α7×α8×Unit):=xIP a (xIP b (xIP c (xIP d (xIP e (xIP f (xIP g (xIP h (xIP i (xIR)))))))))
def q10 {α α0 α1 α2 α3 α4 α5 α6 α7 α8 α9:Type} (a:Pat α α0) (b:Pat α α1) (c:Pat α α2) (d:Pat α α3) (e:Pat α α4) (f:Pat α α5) (g:Pat α α6) (h:Pat α α7) (i:Pat α α8) (j:Pat α α9):Pat (List α) (α0×α1×α2×α3×α4×α5×α6×α7×α8×α9×Unit):=xIP a (xIP b (xIP c (xIP d (xIP e (xIP f (xIP g (xIP h (xIP i (xIP j (xIR))))))))))
def u1 {α0:Type} (a:SPat α0):SPatL (α0×Unit):=xIQ a (xIS)
def u2 {α0 α1:Type} (a:SPat α0) (b:SPat α1):SPatL (α0×α1×Unit):=xIQ a (xIQ b (xIS))
def u3 {α0 α1 α2:Type} (a:SPat α0) (b:SPat α1) (c:SPat α2):SPatL (α0×α1×α2×Unit):=xIQ a (xIQ b (xIQ c (xIS)))
def u4 {α0 α1 α2 α3:Type} (a:SPat α0) (b:SPat α1) (c:SPat α2) (d:SPat α3):SPatL (α0×α1×α2×α3×Unit):=xIQ a (xIQ b (xIQ c (xIQ d (xIS))))
def u5 {α0 α1 α2 α3 α4:Type} (a:SPat α0) (b:SPat α1) (c:SPat α2) (d:SPat α3) (e:SPat α4):SPatL (α0×α1×α2×α3×α4×Unit):=xIQ a (xIQ b (xIQ c (xIQ d (xIQ e (xIS)))))
def u6 {α0 α1 α2 α3 α4 α5:Type} (a:SPat α0) (b:SPat α1) (c:SPat α2) (d:SPat α3) (e:SPat α4) (f:SPat α5):SPatL (α0×α1×α2×α3×α4×α5×Unit):=xIQ a (xIQ b (xIQ c (xIQ d (xIQ e (xIQ f (xIS))))))
def u7 {α0 α1 α2 α3 α4 α5 α6:Type} (a:SPat α0) (b:SPat α1) (c:SPat α2) (d:SPat α3) (e:SPat α4) (f:SPat α5) (g:SPat α6):SPatL (α0×α1×α2×α3×α4×α5×α6×Unit):=xIQ a (xIQ b (xIQ c (xIQ d (xIQ e (xIQ f (xIQ g (xIS)))))))
def LR.okB:LR->Bool
 | .leaf e _ _=>match e with|.normal=>false|_=>true
 | .node _ a b=>a.okB&&b.okB
def LR.okB_ne:∀ {r:LR},r.okB=true->r.eval.1≠.normal
 | .leaf e _ _,h=>fun c=>by
  have c:e=.normal:=c;subst c;simp [LR.okB] at h
 | .node true a b,h=>LR.okB_ne (r:=a) (by simp only [LR.okB,zf] at h;exact h.1)
 | .node false a b,h=>LR.okB_ne (r:=b) (by simp only [LR.okB,zf] at h;exact h.2)
abbrev StT (σ ρ:Type):=σ->Option (σ⊕ρ)
def inL {σ ρ:Type} (s:σ):Option (σ⊕ρ):=some (.inl s)
def inR {σ ρ:Type} (p:ρ):Option (σ⊕ρ):=some (.inr p)
def ixI (l:List AV) (i:Int):Bool:=decide ((0:Int)<=i)&&decide (i<(↑l.length:Int))
def ixS (l:List AV) (i:Int) (s:Sh) (k:Nat):Bool:=decide (i.toNat<l.length)&&xH4 s ((l.getD i.toNat .top).cells.getD k .top)
def ixT (l:List AV) (i:Int) (n:Nat) (ss:List Sh) (k:Nat):Bool:=decide (i.toNat<l.length)&&((l.getD i.toNat .top).cells.length==n&&xIb ss (l.getD i.toNat .top).cells k)
def gC (l:List AV) (i:Int) (k:Nat):AV:=(l.getD i.toNat .top).cells.getD k .top
def rmB (n:Nat) (l:List AV) (c z:Nat):Bool:=n==l.length&&(decide ((n+c)*z<=140737488355328)&&decide (n+c<=4611686018427387904))
abbrev RT:=Exit×List AV×List Box
abbrev HL (E:Env) (nt pin:Nat) (ls:List TypeId) (lp:List (Nat×Lp)) (fn:Func):Prop:=LoOk Tryz.prog (xIO.at pin) (E.fn nt pin (lsOf ls) (xIs lp)) (fn.body.getD .skip)
abbrev FX (E:Env) (nt pin:Nat) (ls:List TypeId) (lp:List (Nat×Lp)) (fn:Func) (pv:SPatL β) (t:β->(T:Type)->T->(ρ->T)->T) (e:β->ρ->AV):Prop:=∀ b,XF Tryz.prog (E.fn nt pin (lsOf ls) (xIs lp)) fn (fn.body.getD .skip) (pv.enc b)=t b (Option AV) none fun p=>some (e b p)
abbrev FE (t:β->(T:Type)->T->(ρ->T)->T) (e:β->ρ->AV):Prop:=∀ b,Enc (e b) (t b (Option ρ) none some) (t b (Option AV) none fun p=>some (e b p))
abbrev MX (E:Env) (nt pin:Nat) (ls:List TypeId) (lp:List (Nat×Lp)) (fn:Func) (pv:SPatL β) (pb:Pat (List Box) γ) (t:β->γ->(T:Type)->T->(ρ->T)->T) (e:β->γ->ρ->AV×List Box):Prop:=∀ b c,XFM Tryz.prog (E.fn nt pin (lsOf ls) (xIs lp)) fn (fn.body.getD .skip) (pv.enc b) (pb.enc c)=t b c (Option (AV×List Box)) none fun p=>some (e b c p)
abbrev ME (t:β->γ->(T:Type)->T->(ρ->T)->T) (e:β->γ->ρ->AV×List Box):Prop:=∀ b c,Enc (e b c) (t b c (Option ρ) none some) (t b c (Option (AV×List Box)) none fun p=>some (e b c p))
abbrev TX (E:Env) (nt pin:Nat) (ls:List TypeId) (lp:List (Nat×Lp)) (fn:Func) (pv:SPatL β) (t:β->(ρ->Option AV)->Option AV) (e:β->ρ->AV):Prop:=∀ b,XF Tryz.prog (E.fn nt pin (lsOf ls) (xIs lp)) fn (fn.body.getD .skip) (pv.enc b)=t b fun p=>some (e b p)
noncomputable abbrev LX (E:Env) (nt pin:Nat) (ls:List TypeId) (lp:List (Nat×Lp)) (l:Code) (lv lo:List Nat) (cv:List (Nat×Nat×TypeId)) (pv:Pat (List AV) β) (pb:Pat (List Box) γ) (F:β->γ->(σ->Option (σ⊕ρ))×σ×(ρ->LR)) (G:β->γ->σ->(β×γ)×((σ->Option RT)->(ρ->Option RT)->Option RT)):Prop:=∀ b c s,XR Tryz.prog (E.fn nt pin (lsOf ls) (xIs lp)) lv lo cv l (pv.enc (G b c s).1.1) (pb.enc (G b c s).1.2)=(G b c s).2 (fun s=>some (encR (fun s=>(pv.enc (G b c s).1.1,pb.enc (G b c s).1.2)) (F b c).2.2 (.inl s))) fun p=>some (encR (fun s=>(pv.enc (G b c s).1.1,pb.enc (G b c s).1.2)) (F b c).2.2 (.inr p))
abbrev LE (pv:Pat (List AV) β) (pb:Pat (List Box) γ) (F:β->γ->(σ->Option (σ⊕ρ))×σ×(ρ->LR)) (G:β->γ->σ->(β×γ)×((σ->Option RT)->(ρ->Option RT)->Option RT)):Prop:=∀ b c s,Enc (encR (fun s=>(pv.enc (G b c s).1.1,pb.enc (G b c s).1.2)) (F b c).2.2) ((F b c).1 s) ((G b c s).2 (fun s=>some (encR (fun s=>(pv.enc (G b c s).1.1,pb.enc (G b c s).1.2)) (F b c).2.2 (.inl s))) fun p=>some (encR (fun s=>(pv.enc (G b c s).1.1,pb.enc (G b c s).1.2)) (F b c).2.2 (.inr p)))
def eV {f:α->β} {a:Option α} {b:Option β} (Y:Option β) (h:b=Y) (he:Enc f a Y):Enc f a b:=h▸he
abbrev LA:=List AV
def lkN {P:Program} {Inv:IV} {E:Env}:∀ c,c∈([]:List Code)->∀ lp,E.lp (xIk c)=some lp->LoopOk P Inv E.nt c lp:=fun c h=>by simp at h
def lkC {P:Program} {Inv:IV} {E:Env} {l:Code} {ls:List Code} {lp0:Lp} (hok:LoopOk P Inv E.nt l lp0) (ht:∀ c,c∈ls->∀ lp,E.lp (xIk c)=some lp->LoopOk P Inv E.nt c lp) (h:E.lp (xIk l)=some lp0:=by kernel_rfl):∀ c,c∈l::ls->∀ lp,E.lp (xIk c)=some lp->LoopOk P Inv E.nt c lp:=fun c hc lp hs=>by
 rcases zC.1 hc with rfl|hc
 . rw [h,z6] at hs;subst hs;exact hok
 . exact ht c hc lp hs
def eN {f:α->β} {b:Option β}:Enc f none b:=Enc.none
def eS {f:α->β} {a:α} {b:β} (h:b=f a):Enc f (some a) (some b):=Enc.some h
def eB {f:α->β} {t:Bool} {a a':Option α} {b b':Option β} (h1:Enc f a b) (h2:Enc f a' b'):Enc f (br t a a') (br t b b'):=Enc.br h1 h2
def fnO (pv:SPatL β) (t:β->(T:Type)->T->(ρ->T)->T) (e:β->ρ->AV) (d:ρ):List AV->Option (Bool×AV):=ocOf pv fun b=>((t b (Option ρ) none some).isSome,e b ((t b (Option ρ) none some).getD d))
def fmO (pv:SPatL β) (pb:Pat (List Box) γ) (t:β->γ->(T:Type)->T->(ρ->T)->T) (e:β->γ->ρ->AV×List Box) (d:ρ):List AV->List Box->Option (Bool×AV×List Box):=omOf pv pb fun b c=>((t b c (Option ρ) none some).isSome,e b c ((t b c (Option ρ) none some).getD d))
noncomputable def lpO (lv lo:List Nat) (cv:List (Nat×Nat×TypeId)) (pv:Pat (List AV) β) (pb:Pat (List Box) γ) (F:β->γ->(σ->Option (σ⊕ρ))×σ×(ρ->LR)) (d:ρ):Lp :=
 lpOf lv lo cv pv pb fun b c=>((Iter (F b c).1 (F b c).2.1).isSome,(F b c).2.2 ((Iter (F b c).1 (F b c).2.1).getD d))
section
variable {E : Env}
def Tot {α:Type} (e:ρ->α) (a:ρ) (x:Option α):Prop:=x=some (e a)
def eT {α:Type} {e:ρ->α} {t:Bool} {a b:ρ} {x y:Option α} (h1:Tot e a x) (h2:Tot e b y):Tot e (br t a b) (br t x y):=by cases t<;>assumption
def eU {α:Type} {e:ρ->α} {a:ρ} {x:α} (h:x=e a):Tot e a (some x):=congrArg some h
def ftO (pv:SPatL β) (f:β->ρ) (e:β->ρ->AV):List AV->Option (Bool×AV):=ocOf pv fun b=>(true,e b (f b))
def ftC (h:xH6 Tryz.prog xIO E) {g:FuncId} {fn:Func} (hf:Tryz.prog.funcs[g]?=some fn) (nt pin:Nat) (ls:List TypeId) (lp:List (Nat×Lp)) {pv:SPatL β} {f:β->ρ} {e:β->ρ->AV}
  (hl:HL E nt pin ls lp fn) (t:β->(ρ->Option AV)->Option AV) (hx:TX E nt pin ls lp fn pv t e:=by intro b;kernel_rfl)
  (he:∀ b,Tot (e b) (f b) (t b fun p=>some (e b p)):=by intro b;repeat' first|apply eT|exact eU rfl)
  (hb:fn.body.isSome=true:=by exact rfl) (hn:(fn.name == "runtime.NumGoroutine")=false:=by kernel_rfl):OcOk Tryz.prog xIO g (ftO pv f e):=xo2 fun b r hh=>by
 obtain ⟨_,h2⟩:=Prod.mk.inj hh;subst h2;exact xnD (p:=pin) (xq0 xIf (xIg Tryz.prog _) rfl h.fn hf hb hn hl ((hx b).trans (he b)))
def lk0 {Inv:IV} {c:Code} (h:xIp c=[]:=by kernel_rfl) (hc:((xIl c).all fun d=>(E.lp (condId d)).isNone)=true:=by kernel_rfl):LoOk Tryz.prog Inv E c:=xhX h hc
def lk1 {Inv:IV} {c l:Code} {lp0:Lp} (hok:LoopOk Tryz.prog Inv E.nt l lp0) (h:xIp c=[l]:=by kernel_rfl) (he:E.lp (xIk l)=some lp0:=by kernel_rfl) (hc:((xIl c).all fun d=>(E.lp (condId d)).isNone)=true:=by kernel_rfl):LoOk Tryz.prog Inv E c:=xkw h (lkC hok lkN he) hc
structure EO where
 E:Env
 ok:xH6 Tryz.prog xIO E
def EO.w (e:EO) {g:FuncId} {o:List AV->Option (Bool×AV)} (c:OcOk Tryz.prog xIO g o):EO:=⟨e.E.with g o,e.ok.with c⟩
def EO.wM (e:EO) {g:FuncId} {o:List AV->List Box->Option (Bool×AV×List Box)} (c:OmOk Tryz.prog xIO g o):EO:=⟨e.E.withM g o,e.ok.withM c⟩
def fnC (h:xH6 Tryz.prog xIO E) {g:FuncId} {fn:Func} (hf:Tryz.prog.funcs[g]?=some fn) (nt pin:Nat) (ls:List TypeId) (lp:List (Nat×Lp)) {pv:SPatL β} {t:β->(T:Type)->T->(ρ->T)->T} {e:β->ρ->AV} {d:ρ}
  (hl:HL E nt pin ls lp fn) (hx:FX E nt pin ls lp fn pv t e:=by intro b;kernel_rfl)
  (he:FE t e:=by intro b;repeat' first|apply eB|exact eN|exact eS rfl)
  (hb:fn.body.isSome=true:=by exact rfl) (hn:(fn.name == "runtime.NumGoroutine")=false:=by kernel_rfl):OcOk Tryz.prog xIO g (fnO pv t e d):=xo2 fun b r hh=>by
 obtain ⟨h1,h2⟩:=Prod.mk.inj hh;subst h2;exact xnD (p:=pin) (xq0 xIf (xIg Tryz.prog _) rfl h.fn hf hb hn hl ((hx b).trans (he b _ (xeI h1))))
def fmC (h:xH6 Tryz.prog xIO E) {g:FuncId} {fn:Func} (hf:Tryz.prog.funcs[g]?=some fn) (nt pin:Nat) (ls:List TypeId) (lp:List (Nat×Lp)) {pv:SPatL β} {pb:Pat (List Box) γ} {t:β->γ->(T:Type)->T->(ρ->T)->T} {e:β->γ->ρ->AV×List Box} {d:ρ}
  (hl:HL E nt pin ls lp fn) (hx:MX E nt pin ls lp fn pv pb t e:=by intro b c;kernel_rfl)
  (he:ME t e:=by intro b c;repeat' first|apply eB|exact eN|exact eS rfl)
  (hp:∀ c,(pb.enc c).length=pin:=by exact fun _=>rfl) (hb:fn.body.isSome=true:=by exact rfl) (hn:(fn.name == "runtime.NumGoroutine")=false:=by kernel_rfl):OmOk Tryz.prog xIO g (fmO pv pb t e d):=xjK fun b c r H' hh=>by
 obtain ⟨h1,h2⟩:=Prod.mk.inj hh;exact xmt (p:=pin) (xms xIf (xIg Tryz.prog _) rfl h.fn (hp c) hf hb hn hl (((hx b c).trans (he b c _ (xeI h1))).trans (congrArg some h2)))
def lpC (h:xH6 Tryz.prog xIO E) (nt pin:Nat) (ls:List TypeId) (lp:List (Nat×Lp)) {l:Code} {lv lo:List Nat} {cv:List (Nat×Nat×TypeId)} {pv:Pat (List AV) β} {pb:Pat (List Box) γ} {F:β->γ->(σ->Option (σ⊕ρ))×σ×(ρ->LR)} {d:ρ}
  (hl:LoOk Tryz.prog (xIO.at pin) (E.fn nt pin (lsOf ls) (xIs lp)) l) (G:β->γ->σ->(β×γ)×((σ->Option RT)->(ρ->Option RT)->Option RT))
  (hx:LX E nt pin ls lp l lv lo cv pv pb F G:=by intro b c s;kernel_rfl)
  (he:LE pv pb F G:=by intro b c s;repeat' first|apply eB|exact eN|exact eS rfl)
  (hM:∀ b c,(G b c (F b c).2.1).1=(b,c):=by exact fun _ _=>rfl) (ho:∀ b c r,((F b c).2.2 r).okB=true:=by exact fun _ _ _=>rfl):LoopOk Tryz.prog (xIO.at pin) nt l (lpO lv lo cv pv pb F d):=xAX fun b c r hh=>by
 obtain ⟨h1,h2⟩:=Prod.mk.inj hh;subst h2;have:=xsH xIf (xIg Tryz.prog _) rfl (h.fn (nt:=nt) (pin:=pin) (ls:=lsOf ls) (lp:=xIs lp)) hl (fun s=>(pv.enc (G b c s).1.1,pb.enc (G b c s).1.2)) (F b c).2.2 (fun p=>LR.okB_ne (ho b c p)) (fun s r hr=>(hx b c s).trans (he b c s r hr)) (xeI (d:=d) h1)
 dsimp only at this;rw [hM b c] at this;exact this
structure LO (pin nt:Nat) (l:Code) where
 lp:Lp
 ok:LoopOk Tryz.prog (xIO.at pin) nt l lp
noncomputable def EO.f (x:EO) {g:FuncId} {fn:Func} (hf:Tryz.prog.funcs[g]?=some fn) (nt pin:Nat) (ls:List TypeId) (lp:List (Nat×Lp))
 (hl:HL x.E nt pin ls lp fn) (pv:SPatL β) (t:β->(T:Type)->T->(ρ->T)->T) (e:β->ρ->AV) (d:ρ) (hx:FX x.E nt pin ls lp fn pv t e:=by intro b;kernel_rfl)
 (he:FE t e:=by intro b;repeat' first|apply eB|exact eN|exact eS rfl)
 (hb:fn.body.isSome=true:=by exact rfl) (hn:(fn.name == "runtime.NumGoroutine")=false:=by kernel_rfl):EO:=x.w (fnC (d:=d) x.ok hf nt pin ls lp hl hx he hb hn)
noncomputable def EO.fM (x:EO) {g:FuncId} {fn:Func} (hf:Tryz.prog.funcs[g]?=some fn) (nt pin:Nat) (ls:List TypeId) (lp:List (Nat×Lp))
 (hl:HL x.E nt pin ls lp fn) (pv:SPatL β) (pb:Pat (List Box) γ) (t:β->γ->(T:Type)->T->(ρ->T)->T) (e:β->γ->ρ->AV×List Box) (d:ρ) (hx:MX x.E nt pin ls lp fn pv pb t e:=by intro b c;kernel_rfl)
 (he:ME t e:=by intro b c;repeat' first|apply eB|exact eN|exact eS rfl)
 (hp:∀ c,(pb.enc c).length=pin:=by exact fun _=>rfl) (hb:fn.body.isSome=true:=by exact rfl) (hn:(fn.name == "runtime.NumGoroutine")=false:=by kernel_rfl):EO:=x.wM (fmC (d:=d) x.ok hf nt pin ls lp hl hx he hp hb hn)
noncomputable def EO.fT (x:EO) {g:FuncId} {fn:Func} (hf:Tryz.prog.funcs[g]?=some fn) (nt pin:Nat) (ls:List TypeId) (lp:List (Nat×Lp))
 (hl:HL x.E nt pin ls lp fn) (t:β->(ρ->Option AV)->Option AV) (pv:SPatL β) (f:β->ρ) (e:β->ρ->AV) (hx:TX x.E nt pin ls lp fn pv t e:=by intro b;kernel_rfl)
 (he:∀ b,Tot (e b) (f b) (t b fun p=>some (e b p)):=by intro b;repeat' first|apply eT|exact eU rfl)
 (hb:fn.body.isSome=true:=by exact rfl) (hn:(fn.name == "runtime.NumGoroutine")=false:=by kernel_rfl):EO:=x.w (ftC x.ok hf nt pin ls lp hl t hx he hb hn)
noncomputable def EO.l (x:EO) (nt pin:Nat) (ls:List TypeId) (lp:List (Nat×Lp)) (fn:Func) (k:Nat) (hl:LoOk Tryz.prog (xIO.at pin) (x.E.fn nt pin (lsOf ls) (xIs lp)) (xIa fn k)) (lv lo:List Nat) (cv:List (Nat×Nat×TypeId)) (pv:Pat (List AV) β) (pb:Pat (List Box) γ) (F:β->γ->(σ->Option (σ⊕ρ))×σ×(ρ->LR)) (d:ρ)
 (G:β->γ->σ->(β×γ)×((σ->Option RT)->(ρ->Option RT)->Option RT))
 (hx:LX x.E nt pin ls lp (xIa fn k) lv lo cv pv pb F G:=by intro b c s;kernel_rfl)
 (he:LE pv pb F G:=by intro b c s;repeat' first|apply eB|exact eN|exact eS rfl)
 (hM:∀ b c,(G b c (F b c).2.1).1=(b,c):=by exact fun _ _=>rfl) (ho:∀ b c r,((F b c).2.2 r).okB=true:=by exact fun _ _ _=>rfl):LO pin nt (xIa fn k):=⟨lpO lv lo cv pv pb F d,lpC x.ok nt pin ls lp hl G hx he hM ho⟩
def lks {Inv:IV} {c:Code} {ls:List Code} (hl:∀ l,l∈ls->∀ lp,E.lp (xIk l)=some lp->LoopOk Tryz.prog Inv E.nt l lp) (h:xIp c=ls:=by kernel_rfl) (hc:((xIl c).all fun d=>(E.lp (condId d)).isNone)=true:=by kernel_rfl):LoOk Tryz.prog Inv E c:=xkw h hl hc
end
end
end Go.Sim
end
noncomputable section
namespace Go.Sim
def sUF:(∀ {σ ρ:Type} (s:σ),(inL s:Option (σ⊕ρ))=some (.inl s))/\(∀ {σ ρ:Type} (p:ρ),(inR p:Option (σ⊕ρ))=some (.inr p))/\(∀ (l:List AV) (i:Int),ixI l i=(decide ((0:Int)<=i)&&decide (i<(↑l.length:Int))))/\(∀ (l:List AV) (i:Int) (s:Sh) (k:Nat),ixS l i s k=(decide (i.toNat<l.length)&&xH4 s ((l.getD i.toNat .top).cells.getD k .top)))/\(∀ (l:List AV) (i:Int) (n:Nat) (ss:List Sh) (k:Nat),ixT l i n ss k=(decide (i.toNat<l.length)&&((l.getD i.toNat .top).cells.length==n&&xIb ss (l.getD i.toNat .top).cells k)))/\(∀ (l:List AV) (i:Int) (k:Nat),gC l i k=(l.getD i.toNat .top).cells.getD k .top)/\(∀ (n:Nat) (l:List AV) (c z:Nat),rmB n l c z=(n==l.length&&(decide ((n+c)*z<=140737488355328)&&decide (n+c<=4611686018427387904)))) :=
 ⟨fun _=>rfl,fun _=>rfl,fun _ _=>rfl,fun _ _ _ _=>rfl,fun _ _ _ _ _=>rfl,fun _ _ _=>rfl,fun _ _ _ _=>rfl⟩
def sBU:((∀ {α β:Type} {l:List α} (f:α->β),(l.map f).length=l.length)/\(∀ {T:Type} {a b:T},br true a b=a)/\(∀ {T:Type} {a b:T},br false a b=b)/\(∀ (h:Decidable True),@decide True h=true)/\(∀ (h:Decidable False),@decide False h=false) /\
  (∀ b:Bool,(b&&true)=b)/\(∀ b:Bool,(true&&b)=b)/\((!true)=false)/\((!false)=true)/\(∀ n:Nat,(n:Int).toNat=n)/\(∀ n:Nat,(0:Int)<=(n:Int))/\(∀ {α:Type} {a:α},(some a).isSome=true)/\(∀ {α:Type} {a b:α},(some a).getD b=a) /\
  (∀ {α:Type} [BEq α] [ReflBEq α] (a:α),(a==a)=true)/\(∀ n:Nat,0+n=n)/\(∀ n:Nat,n - 0=n))/\(∀ {σ ρ:Type} (s:σ),(inL s:Option (σ⊕ρ))=some (.inl s))/\(∀ {σ ρ:Type} (p:ρ),(inR p:Option (σ⊕ρ))=some (.inr p))/\(∀ (l:List AV) (i:Int),ixI l i=(decide ((0:Int)<=i)&&decide (i<(↑l.length:Int))))/\(∀ (l:List AV) (i:Int) (s:Sh) (k:Nat),ixS l i s k=(decide (i.toNat<l.length)&&xH4 s ((l.getD i.toNat .top).cells.getD k .top)))/\(∀ (l:List AV) (i:Int) (n:Nat) (ss:List Sh) (k:Nat),ixT l i n ss k=(decide (i.toNat<l.length)&&((l.getD i.toNat .top).cells.length==n&&xIb ss (l.getD i.toNat .top).cells k)))/\(∀ (l:List AV) (i:Int) (k:Nat),gC l i k=(l.getD i.toNat .top).cells.getD k .top)/\(∀ (n:Nat) (l:List AV) (c z:Nat),rmB n l c z=(n==l.length&&(decide ((n+c)*z<=140737488355328)&&decide (n+c<=4611686018427387904)))) :=
 ⟨⟨za,rfl,rfl,fun h=>by simp,fun h=>by simp,zS,Bool.true_and,rfl,rfl,zN,Int.natCast_nonneg,rfl,rfl,fun a=>beq_self_eq_true a,zH,Nat.sub_zero⟩,sUF⟩
def sOO:(∀ {α:Type} {l:List α},l.drop 0=l)/\(∀ {α:Type} {l:List α} {i:Nat},l.length<=i->l.take i=l)/\(∀ n:Nat,0+n=n)/\(∀ {α β:Type} {l:List α} (f:α->β),(l.map f).length=l.length)/\(∀ n:Nat,n<=n)/\(∀ (h:Decidable True),@decide True h=true)/\(∀ b:Bool,(b&&true)=b)/\(∀ {T:Type} {a b:T},br true a b=a) /\
  (∀ {α:Type} {a:α},(some a).isSome=true)/\(∀ {α:Type} {a b:α},(some a).getD b=a) :=
 ⟨zr,zi,zH,za,zd,fun h=>by simp,zS,rfl,rfl,rfl⟩
end Go.Sim
noncomputable def Go.Sim.M.xFU:Go.Sim.EO:=Go.Sim.EO.mk Go.Sim.M.E0 Go.Sim.M.xFV
end
noncomputable section
set_option maxRecDepth 100000
namespace Go.Sim.M
open Go.IntKind (i64 u64 u8)
open Go.RowKit Go.Proofs
def xcJ {T:Type} (a:List UInt8) (δ:T) (κ:Int×Nat×LA->T):T:=br (decide ((byteAVs a).length*1<=140737488355328)&&decide ((byteAVs a).length<=4611686018427387904)) (κ ((↑a.length:Int),(byteAVs a).length,byteAVs a)) δ
def xax (a:List UInt8):=xcJ a none some
def xFX:EO:=xFU.fM Tryz.func94 19 1 [] [] lk0 (u2 (sEq (xI1 0 0 0 0)) (sEq pStr)) (q1 (qB 0 2 111 (q1 (xI2 (q2 pNilptr pNils))))) (fun (_,a,_) (((_,_,_),_),_) _=>xcJ a) (fun _ _ p=>(AV.tuple [AV.int .i64 p.1,.top],([⟨0,2,111,[AV.agg [AV.own 0 0 0 0,AV.osl 1 0 0 p.2.1]],false,false⟩,bF 0 1 5 p.2.2]:List Box))) (0,0,[])
def xdQ {T:Type} (a:List UInt8) (n:Nat) (b:LA) (δ:T) (κ:Int×Nat×LA->T):T:=br (n==b.length&&(decide ((n+(byteAVs a).length)*1<=140737488355328)&&decide (n+(byteAVs a).length<=4611686018427387904))) (κ ((↑a.length:Int),n+(byteAVs a).length,b++byteAVs a)) δ
def xaX (a:List UInt8) (n:Nat) (b:LA):=xdQ a n b none some
def xFY:EO:=xFX.fM Tryz.func94 19 2 [] [] lk0 (u2 (sEq (xI1 0 0 0 0)) (sEq pStr)) (q2 (xI3 0 2 111 false false (q1 (xI2 (q2 (xI1 0 0 0 0) (xI0 1 0 0))))) (qB 0 1 5 xIT)) (fun (_,a,_) (((_,n,_),_),b,_) _=>xdQ a n b) (fun _ _ p=>(AV.tuple [AV.int .i64 p.1,.top],([⟨0,2,111,[AV.agg [AV.own 0 0 0 0,AV.osl 1 1 0 p.2.1]],false,false⟩,bF 1 1 5 p.2.2]:List Box))) (0,0,[])
def xkE {T:Type} (a:List UInt8) (n:Nat) (b:LA) (δ:T) (κ:Int×Nat×LA->T):T:=br (n==b.length&&(decide ((n+(byteAVs a).length)*1<=140737488355328)&&decide (n+(byteAVs a).length<=4611686018427387904))) (κ ((↑a.length:Int),n+(byteAVs a).length,b++byteAVs a)) δ
def xyO:EO:=xFY.fM Tryz.func94 19 2 [] [] lk0 (u2 (sEq (xI1 0 0 0 0)) (sEq pStr)) (q2 (xI3 0 2 111 false false (q1 (xI2 (q2 (xI1 0 0 0 0) (xI0 1 1 0))))) (qB 1 1 5 xIT)) (fun (_,a,_) (((_,n,_),_),b,_) _=>xkE a n b) (fun _ _ p=>(AV.tuple [AV.int .i64 p.1,.top],([⟨0,2,111,[AV.agg [AV.own 0 0 0 0,AV.osl 1 2 0 p.2.1]],false,false⟩,bF 2 1 5 p.2.2]:List Box))) (0,0,[])
def xby:Env:=xyO.E.fn 17 1 (lsOf []) (xIs [])
def xkf:xH6 P0 (xIO.at 1) xby:=xyO.ok.fn
def xjS:LoOk P0 (xIO.at xby.pin) xby (Tryz.f96.body.getD .skip):=xhX (by kernel_rfl)
def xe4 (c:Int):Int:=((c))
def xgf (c:Int):Bool:=true
def xhc {T:Type} (c:Int) (δ:T) (κ:Int->T):T:=κ (c)
def xlT (c:Int):Pre (xgf c) (XFM P0 xby Tryz.f96 (Tryz.f96.body.getD .skip) [AV.own (0:Id) 0 0 0,AV.int .u8 c] [{ ver:=0,sz:=2,ty:=(111:TypeId),xs:=[AV.agg [AV.nilptr,AV.nils]],frz:=false,pm:=true }]) ((.top,([⟨0,2,111,[AV.agg [AV.own 0 0 0 0,AV.osl 1 0 0 1]],false,false⟩,⟨0,1,5,[AV.int .u8 (xe4 c)],false,true⟩]:List Box))):=by
 have h:XFM P0 xby Tryz.f96 (Tryz.f96.body.getD .skip) [AV.own (0:Id) 0 0 0,AV.int .u8 c] [{ ver:=0,sz:=2,ty:=(111:TypeId),xs:=[AV.agg [AV.nilptr,AV.nils]],frz:=false,pm:=true }]=xhc c none (fun (p:Int)=>some (((.top,([⟨0,2,111,[AV.agg [AV.own 0 0 0 0,AV.osl 1 0 0 1]],false,false⟩,⟨0,1,5,[AV.int .u8 p],false,true⟩]:List Box))):(AV×List Box))):=by kernel_rfl
 rw [h];unfold xe4 xgf xhc;repeat' (first|exact Pre.none|exact Pre.tt rfl|exact Pre.some rfl|refine Pre.l ?_|refine Pre.r ?_|refine Pre.br (f:=fun (p:Int)=>(((.top,([⟨0,2,111,[AV.agg [AV.own 0 0 0 0,AV.osl 1 0 0 1]],false,false⟩,⟨0,1,5,[AV.int .u8 p],false,true⟩]:List Box))):(AV×List Box))) ?_ ?_|refine Pre.brt (f:=fun (p:Int)=>(((.top,([⟨0,2,111,[AV.agg [AV.own 0 0 0 0,AV.osl 1 0 0 1]],false,false⟩,⟨0,1,5,[AV.int .u8 p],false,true⟩]:List Box))):(AV×List Box))) ?_ ?_)
def xlS:LA->List Box->Option (Bool×AV×List Box):=omOf (xIQ (sEq (xI1 0 0 0 0)) (xIQ (sEq (pInt .u8)) xIS)) (xIP (xI3 0 2 (111:TypeId) false true (xIP (xI2 (xIP pNilptr (xIP pNils xIR))) xIR)) xIR) fun (_,(c,_)) (((_,(_,_)),_),_)=>(true,((.top,([⟨0,2,111,[AV.agg [AV.own 0 0 0 0,AV.osl 1 0 0 1]],false,false⟩,⟨0,1,5,[AV.int .u8 (xe4 c)],false,true⟩]:List Box))))
def xlR:OmOk P0 xIO 96 (xlS):=xjK fun b d h f e=>by
 obtain ⟨_,⟨c,_⟩⟩:=b;obtain ⟨⟨⟨_,⟨_,_⟩⟩,_⟩,_⟩:=d;obtain ⟨g,a⟩:=Prod.mk.inj e;refine xmt (p:=xby.pin) (xms xIf (xIg P0 _) rfl xkf rfl Tryz.func96 rfl (by kernel_rfl) xjS ((Pre.get (xlT _) rfl).trans ?_))
 exact congrArg some a
def xFZ:EO:=xyO.wM xlR
def xgY {T:Type} (c:Int) (n:Nat) (a:LA) (δ:T) (κ:Nat×LA->T):T:=br (rmB n a 1 1) (κ (n+1,a++[AV.int .u8 c])) δ
def xdz (c:Int) (n:Nat) (a:LA):=xgY c n a none some
def xFx:EO:=xFZ.fM Tryz.func96 17 2 [] [] lk0 (u2 (sEq (xI1 0 0 0 0)) (sEq (pInt .u8))) (q2 (xI3 0 2 111 false false (q1 (xI2 (q2 (xI1 0 0 0 0) (xI0 1 0 0))))) (qB 0 1 5 xIT)) (fun (_,c,_) (((_,n,_),_),a,_) _=>xgY c n a) (fun _ _ p=>(.top,([⟨0,2,111,[AV.agg [AV.own 0 0 0 0,AV.osl 1 1 0 p.1]],false,false⟩,bF 1 1 5 p.2]:List Box))) (0,[])
def xen {T:Type} (c:Int) (n:Nat) (a:LA) (δ:T) (κ:Nat×LA->T):T:=br (rmB n a 1 1) (κ (n+1,a++[AV.int .u8 c])) δ
def xdA (c:Int) (n:Nat) (a:LA):=xen c n a none some
def xF0:EO:=xFx.fM Tryz.func96 17 2 [] [] lk0 (u2 (sEq (xI1 0 0 0 0)) (sEq (pInt .u8))) (q2 (xI3 0 2 111 false false (q1 (xI2 (q2 (xI1 0 0 0 0) (xI0 1 1 0))))) (qB 1 1 5 xIT)) (fun (_,c,_) (((_,n,_),_),a,_) _=>xen c n a) (fun _ _ p=>(.top,([⟨0,2,111,[AV.agg [AV.own 0 0 0 0,AV.osl 1 2 0 p.1]],false,false⟩,bF 2 1 5 p.2]:List Box))) (0,[])
def xf0 (a b:Int):Bool:=(br (decide (a>=0)) (br (decide (a<b)) ((decide (b<=1099511627776))) ((false))) ((false)))
def xtE {T:Type} (a b:Int) (δ:T) (κ:Bool->T):T:=br (decide (a>=0)) (br (decide (a<b)) (κ (decide (b<=1099511627776))) (κ (false))) (κ (false))
def xyP:EO:=xF0.fT Tryz.func111 18 0 [] [] lk0 (fun ((a,b,_),_)=>xtE a b none) (u1 (xI5 (u2 uI uI))) (fun ((a,b,_),_)=>xf0 a b) (fun _ p=>(AV.bool p))
def xeU (b:Int) (a:LA):=((a.getD (0+b.toNat) .top).cells.getD 0 .top).toInt
def xi4 (d:Int) (c:Nat) (b a:LA):=((xaX (Lib.itoa (xeU d b)) c a).getD (0,0,[])).snd
def xi3 (d:Int) (c:Nat) (b a:LA):=xdA 32 (xi4 d c b a).fst (xi4 d c b a).snd
def xi2 (d:Int) (c:Nat) (b a:LA):=(xi3 d c b a).getD (0,[])
def xhe {T:Type} (k:LA) (l j:Int) (e:Nat) (i c:Int) (d:Nat) (f g:Int) (h:List UInt8) (a b:LA) (δ:T) (κl:(Int×Nat×Int×Int×List UInt8×LA×LA)->T) (κr:(Nat×Int×Int×List UInt8×LA)->T):T:=br (decide (c<i)) (br (decide (0<=c)&&decide (c<(↑e:Int))) (br (decide (0+c.toNat<a.length)&&xH4 (Sh.int .i64) ((a.getD (0+c.toNat) .top).cells.getD 0 .top)) (br (decide ((-9223372036854775808)<=xeU c a)&&decide (xeU c a<=9223372036854775807)) (br ((xaX (Lib.itoa (xeU c a)) d b).isSome) (br ((xi3 c d a b).isSome) (κl (i64.wrap (c+1),(xi2 c d a b).fst,f,g,h,a,(xi2 c d a b).snd)) δ) δ) δ) δ) δ) (κr (d,f,g,h,b))
def xbF (k:LA) (l e:Int) (c:Nat) (f:Int):StT (Int×Nat×Int×Int×List UInt8×LA×LA) (Nat×Int×Int×List UInt8×LA):=fun (g,d,h,i,j,b,a)=>xhe k l e c f g d h i j b a none inL inR
def xgo:=xyP.l 37 0 [] [] Tryz.f141 1 lk0 [3,5,8,9,10,21,22,23] [3,5,8,9,10] [] (q8 (xI1 0 0 0 0) (xI1 1 0 0 0) (qL 3) qI qI (xI0 2 0 0) qI qI) (q4 (xI3 0 2 111 false false (q1 (xI2 (q2 (xI1 0 0 0 0) (xI0 3 0 0))))) (qB 0 3 87 (q1 (xI2 (q3 qI qI pStr)))) (qB 0 1 3 xIT) (qB 0 1 5 xIT)) (fun (_,_,k,m,e,c,f,g,_) (((_,d,_),_),((h,i,j,_),_),b,a,_)=>(xbF k m e c f,(g,d,h,i,j,b,a),fun p=>(.leaf (.exit 2) [AV.own 0 0 0 0,AV.own 1 0 0 0,AV.list 3 k,AV.int .i64 m,AV.int .i64 e] [⟨0,2,111,[AV.agg [AV.own 0 0 0 0,AV.osl 2 0 0 p.1]],false,false⟩,bF 0 3 87 [AV.agg [AV.int .i64 p.2.1,AV.int .i64 p.2.2.1,AV.str p.2.2.2.1]],bF 0 1 5 p.2.2.2.2]))) (0,0,0,[],[]) fun (_,_,k,m,e,c,f,_,_) _ (g,d,h,i,j,b,a)=>((((),(),k,m,e,c,f,g,()),((((),d,()),()),((h,i,j,()),()),b,a,())),xhe k m e c f g d h i j b a none)
def xi1 (b:LA) (e a:Int) (d:Nat) (c:LA):=Iter (xbF b e a 3 3) (0,d,(gC b a 0).toInt,(gC b a 1).toInt,(gC b a 2).toStr,[AV.int .i64 (gC b a 0).toInt,AV.int .i64 (gC b a 1).toInt,AV.int .i64 (↑(gC b a 2).toStr.length:Int)],c)
def xgn (d:LA) (e c:Int) (b:Nat) (a:LA):=(xi1 d e c b a).getD (0,0,0,[],[])
def xi0 (d:LA) (e c:Int) (b:Nat) (a:LA):=xaX ((xgn d e c b a).snd.snd.snd).fst (xgn d e c b a).fst ((xgn d e c b a).snd.snd.snd).snd
def xix (d:LA) (e c:Int) (b:Nat) (a:LA):=((xi0 d e c b a).getD (0,0,[])).snd
def xhd {T:Type} (d:LA) (e b:Int) (c:Nat) (a:LA) (δ:T) (κl:(Int×Nat×LA)->T) (κr:(Nat×LA)->T):T:=br (decide (b<e)) (br (ixI d b) (br (ixT d b 3 [Sh.int .i64,Sh.int .i64,Sh.str] 0) (br ((xi1 d e b c a).isSome) (br ((xi0 d e b c a).isSome) (κl (i64.wrap (b+1),(xix d e b c a).fst,(xix d e b c a).snd)) δ) δ) δ) δ) (κr (c,a))
def xdj (d:LA) (e:Int):StT (Int×Nat×LA) (Nat×LA):=fun (c,b,a)=>xhd d e c b a none inL inR
def xmq:=xyP.l 37 0 [] [(6,xgo.lp)] Tryz.f141 0 (lk1 xgo.ok) [3,8,9,10] [3] [] (q4 (xI1 0 0 0 0) (qL 3) qI qI) (q2 (xI3 0 2 111 false false (q1 (xI2 (q2 (xI1 0 0 0 0) (xI0 1 0 0))))) (qB 0 1 5 xIT)) (fun (_,d,e,c,_) (((_,b,_),_),a,_)=>(xdj d e,(c,b,a),fun p=>(.leaf (.exit 0) [AV.own 0 0 0 0] [⟨0,2,111,[AV.agg [AV.own 0 0 0 0,AV.osl 1 0 0 p.1]],false,false⟩,bF 0 1 5 p.2]))) (0,[]) fun (_,d,e,_,_) _ (c,b,a)=>((((),d,e,c,()),((((),b,()),()),a,())),xhd d e c b a none)
def xc6 (a:LA):=((a.getD 0 .top).cells.getD 0 .top).toInt
def xlb (a:LA):=xdz 32 ((xax (Lib.itoa (xc6 a))).getD (0,0,[])).snd.fst ((xax (Lib.itoa (xc6 a))).getD (0,0,[])).snd.snd
def xla (a:LA):=(xlb a).getD (0,[])
def xk9 (a:LA):=Iter (xbF a (↑a.length:Int) 0 3 3) (1,(xla a).fst,xc6 a,((a.getD 0 .top).cells.getD 1 .top).toInt,((a.getD 0 .top).cells.getD 2 .top).toStr,[AV.int .i64 (xc6 a),AV.int .i64 ((a.getD 0 .top).cells.getD 1 .top).toInt,AV.int .i64 (↑((a.getD 0 .top).cells.getD 2 .top).toStr.length:Int)],(xla a).snd)
def xig (a:LA):=(xk9 a).getD (0,0,0,[],[])
def xk8 (a:LA):=xaX ((xig a).snd.snd.snd).fst (xig a).fst ((xig a).snd.snd.snd).snd
def xk7 (a:LA):=((xk8 a).getD (0,0,[])).snd
def xk6 (a:LA):=Iter (xdj a (↑a.length:Int)) (1,(xk7 a).fst,(xk7 a).snd)
def xfb (a:LA):=(xk6 a).getD (0,[])
def xlZ {T:Type} (a:LA) (δ:T) (κ:List UInt8->T):T:=br (decide (0<(↑a.length:Int))) (br (decide (0<(↑a.length:Int))) (br (decide (0<a.length)&&((a.getD 0 .top).cells.length==3&&xIb [Sh.int .i64,Sh.int .i64,Sh.str] (a.getD 0 .top).cells 0)) (br (decide ((-9223372036854775808)<=xc6 a)&&decide (xc6 a<=9223372036854775807)) (br ((xax (Lib.itoa (xc6 a))).isSome) (br ((xlb a).isSome) (br ((xk9 a).isSome) (br ((xk8 a).isSome) (br ((xk6 a).isSome) (br (decide ((xfb a).fst=((xfb a).snd).length)&&isBytes ((xfb a).snd)&&decide (((xfb a).snd).length≠0)) (κ (strOf ((xfb a).snd))) δ) δ) δ) δ) δ) δ) δ) δ) δ) (κ ([]))
def xiZ (a:LA):=xlZ a none some
def xyQ:EO:=xyP.f Tryz.func141 37 0 [] [(6,xgo.lp),(3,xmq.lp)] (lks (lkC xmq.ok (lkC xgo.ok lkN))) (u1 (uL 3)) (fun (a,_) _=>xlZ a) (fun _ p=>AV.str p) []
def xgC (b:Int) (a:LA):=((a.getD (0+b.toNat) .top).cells.getD 0 .top).toInt
def xlC (d:Int) (c:Nat) (b a:LA):=((xaX (Lib.itoa (xgC d b)) c a).getD (0,0,[])).snd
def xlB (d:Int) (c:Nat) (b a:LA):=xdA 32 (xlC d c b a).fst (xlC d c b a).snd
def xlA (d:Int) (c:Nat) (b a:LA):=(xlB d c b a).getD (0,[])
def xjP {T:Type} (k:LA) (l j:Int) (e:Nat) (i c:Int) (d:Nat) (f g:Int) (h:List UInt8) (a b:LA) (δ:T) (κl:(Int×Nat×Int×Int×List UInt8×LA×LA)->T) (κr:(Nat×Int×Int×List UInt8×LA)->T):T:=br (decide (c<i)) (br (decide (0<=c)&&decide (c<(↑e:Int))) (br (decide (0+c.toNat<a.length)&&xH4 (Sh.int .i64) ((a.getD (0+c.toNat) .top).cells.getD 0 .top)) (br (decide ((-9223372036854775808)<=xgC c a)&&decide (xgC c a<=9223372036854775807)) (br ((xaX (Lib.itoa (xgC c a)) d b).isSome) (br ((xlB c d a b).isSome) (κl (i64.wrap (c+1),(xlA c d a b).fst,f,g,h,a,(xlA c d a b).snd)) δ) δ) δ) δ) δ) (κr (d,f,g,h,b))
def xcc (k:LA) (l e:Int) (c:Nat) (f:Int):StT (Int×Nat×Int×Int×List UInt8×LA×LA) (Nat×Int×Int×List UInt8×LA):=fun (g,d,h,i,j,b,a)=>xjP k l e c f g d h i j b a none inL inR
def xiK:=xyQ.l 37 0 [] [] Tryz.f62 1 lk0 [3,5,8,9,10,21,22,23] [3,5,8,9,10] [] (q8 (xI1 0 0 0 0) (xI1 1 0 0 0) (qL 3) qI qI (xI0 2 0 0) qI qI) (q4 (xI3 0 2 111 false false (q1 (xI2 (q2 (xI1 0 0 0 0) (xI0 3 0 0))))) (qB 0 3 87 (q1 (xI2 (q3 qI qI pStr)))) (qB 0 1 3 xIT) (qB 0 1 5 xIT)) (fun (_,_,k,m,e,c,f,g,_) (((_,d,_),_),((h,i,j,_),_),b,a,_)=>(xcc k m e c f,(g,d,h,i,j,b,a),fun p=>(.leaf (.exit 2) [AV.own 0 0 0 0,AV.own 1 0 0 0,AV.list 3 k,AV.int .i64 m,AV.int .i64 e] [⟨0,2,111,[AV.agg [AV.own 0 0 0 0,AV.osl 2 0 0 p.1]],false,false⟩,bF 0 3 87 [AV.agg [AV.int .i64 p.2.1,AV.int .i64 p.2.2.1,AV.str p.2.2.2.1]],bF 0 1 5 p.2.2.2.2]))) (0,0,0,[],[]) fun (_,_,k,m,e,c,f,_,_) _ (g,d,h,i,j,b,a)=>((((),(),k,m,e,c,f,g,()),((((),d,()),()),((h,i,j,()),()),b,a,())),xjP k m e c f g d h i j b a none)
def xlz (b:LA) (e a:Int) (d:Nat) (c:LA):=Iter (xcc b e a 3 3) (0,d,(gC b a 0).toInt,(gC b a 1).toInt,(gC b a 2).toStr,[AV.int .i64 (gC b a 0).toInt,AV.int .i64 (gC b a 1).toInt,AV.int .i64 (↑(gC b a 2).toStr.length:Int)],c)
def xiJ (d:LA) (e c:Int) (b:Nat) (a:LA):=(xlz d e c b a).getD (0,0,0,[],[])
def xly (d:LA) (e c:Int) (b:Nat) (a:LA):=xaX ((xiJ d e c b a).snd.snd.snd).fst (xiJ d e c b a).fst ((xiJ d e c b a).snd.snd.snd).snd
def xlw (d:LA) (e c:Int) (b:Nat) (a:LA):=((xly d e c b a).getD (0,0,[])).snd
def xjO {T:Type} (d:LA) (e b:Int) (c:Nat) (a:LA) (δ:T) (κl:(Int×Nat×LA)->T) (κr:(Nat×LA)->T):T:=br (decide (b<e)) (br (ixI d b) (br (ixT d b 3 [Sh.int .i64,Sh.int .i64,Sh.str] 0) (br ((xlz d e b c a).isSome) (br ((xly d e b c a).isSome) (κl (i64.wrap (b+1),(xlw d e b c a).fst,(xlw d e b c a).snd)) δ) δ) δ) δ) (κr (c,a))
def xeq (d:LA) (e:Int):StT (Int×Nat×LA) (Nat×LA):=fun (c,b,a)=>xjO d e c b a none inL inR
def xos:=xyQ.l 37 0 [] [(6,xiK.lp)] Tryz.f62 0 (lk1 xiK.ok) [3,8,9,10] [3] [] (q4 (xI1 0 0 0 0) (qL 3) qI qI) (q2 (xI3 0 2 111 false false (q1 (xI2 (q2 (xI1 0 0 0 0) (xI0 1 0 0))))) (qB 0 1 5 xIT)) (fun (_,d,e,c,_) (((_,b,_),_),a,_)=>(xeq d e,(c,b,a),fun p=>(.leaf (.exit 0) [AV.own 0 0 0 0] [⟨0,2,111,[AV.agg [AV.own 0 0 0 0,AV.osl 1 0 0 p.1]],false,false⟩,bF 0 1 5 p.2]))) (0,[]) fun (_,d,e,_,_) _ (c,b,a)=>((((),d,e,c,()),((((),b,()),()),a,())),xjO d e c b a none)
def xev (a:LA):=((a.getD 0 .top).cells.getD 0 .top).toInt
def xn1 (a:LA):=xdz 32 ((xax (Lib.itoa (xev a))).getD (0,0,[])).snd.fst ((xax (Lib.itoa (xev a))).getD (0,0,[])).snd.snd
def xn0 (a:LA):=(xn1 a).getD (0,[])
def xnx (a:LA):=Iter (xcc a (↑a.length:Int) 0 3 3) (1,(xn0 a).fst,xev a,((a.getD 0 .top).cells.getD 1 .top).toInt,((a.getD 0 .top).cells.getD 2 .top).toStr,[AV.int .i64 (xev a),AV.int .i64 ((a.getD 0 .top).cells.getD 1 .top).toInt,AV.int .i64 (↑((a.getD 0 .top).cells.getD 2 .top).toStr.length:Int)],(xn0 a).snd)
def xlD (a:LA):=(xnx a).getD (0,0,0,[],[])
def xnZ (a:LA):=xaX ((xlD a).snd.snd.snd).fst (xlD a).fst ((xlD a).snd.snd.snd).snd
def xnY (a:LA):=((xnZ a).getD (0,0,[])).snd
def xnX (a:LA):=Iter (xeq a (↑a.length:Int)) (1,(xnY a).fst,(xnY a).snd)
def xhA (a:LA):=(xnX a).getD (0,[])
def xoN {T:Type} (a:LA) (δ:T) (κ:List UInt8->T):T:=br (decide (0<(↑a.length:Int))) (br (decide (0<(↑a.length:Int))) (br (decide (0<a.length)&&((a.getD 0 .top).cells.length==3&&xIb [Sh.int .i64,Sh.int .i64,Sh.str] (a.getD 0 .top).cells 0)) (br (decide ((-9223372036854775808)<=xev a)&&decide (xev a<=9223372036854775807)) (br ((xax (Lib.itoa (xev a))).isSome) (br ((xn1 a).isSome) (br ((xnx a).isSome) (br ((xnZ a).isSome) (br ((xnX a).isSome) (br (decide ((xhA a).fst=((xhA a).snd).length)&&isBytes ((xhA a).snd)&&decide (((xhA a).snd).length≠0)) (κ (strOf ((xhA a).snd))) δ) δ) δ) δ) δ) δ) δ) δ) δ) (κ ([]))
def xa0 (a:LA):=xoN a none some
def xsd:EO:=xyQ.f Tryz.func62 37 0 [] [(6,xiK.lp),(3,xos.lp)] (lks (lkC xos.ok (lkC xiK.ok lkN))) (u1 (uL 3)) (fun (a,_) _=>xoN a) (fun _ p=>AV.str p) []
def xfP (x:Int):Bool:=((x != x))
def xwu {T:Type} (x:Int) (δ:T) (κ:Bool->T):T:=κ (x != x)
def xF1:EO:=xsd.fT Tryz.func138 6 0 [] [] lk0 (fun (x,_)=>xwu x none) (u1 uI) (fun (x,_)=>xfP x) (fun _ p=>(AV.bool p))
def xdg (x y:Int):Int:=(br (xfP x) (br (xfP y) ((0)) (((-1)))) (br (xfP y) ((1)) (br (decide (x<y)) (((-1))) (br (decide (x>y)) ((1)) ((0))))))
def xuM {T:Type} (x y:Int) (δ:T) (κ:Int->T):T:=br (xfP x) (br (xfP y) (κ (0)) (κ ((-1)))) (br (xfP y) (κ (1)) (br (decide (x<y)) (κ ((-1))) (br (decide (x>y)) (κ (1)) (κ (0)))))
def xyR:EO:=xF1.fT Tryz.func110 20 0 [] [] lk0 (fun (x,y,_)=>xuM x y none) (u2 uI uI) (fun (x,y,_)=>xdg x y) (fun _ p=>(AV.int .i64 p))
def xiV:Env:=xyR.E.fn 18 0 (lsOf []) (xIs [])
def xvk:xH6 P0 (xIO.at 0) xiV:=xyR.ok.fn
def xso:LoOk P0 (xIO.at xiV.pin) xiV (Tryz.f109.body.getD .skip):=xkw (ls:=[xIa Tryz.f109 0]) (by kernel_rfl) (fun l a lp b=>by
 simp only [zC,List.not_mem_nil,or_false] at a;rcases a with rfl
 . rw [show xiV.lp (xIk (xIa Tryz.f109 0))=none by kernel_rfl] at b
   simp at b)
def xnw (a b c:Int):Int:=(br (a != 0) ((a)) (br (b != 0) ((b)) (br (c != 0) ((c)) ((0)))))
def xsp (a b c:Int):Bool:=true
def xvl {T:Type} (a b c:Int) (δ:T) (κ:Int->T):T:=br (a != 0) (κ (a)) (br (b != 0) (κ (b)) (br (c != 0) (κ (c)) (κ (0))))
def xBQ (a b c:Int):Pre (xsp a b c) (XF P0 xiV Tryz.f109 (Tryz.f109.body.getD .skip) [AV.list 1 [AV.int .i64 a,AV.int .i64 b,AV.int .i64 c]]) (AV.int .i64 (xnw a b c)):=by
 have h:XF P0 xiV Tryz.f109 (Tryz.f109.body.getD .skip) [AV.list 1 [AV.int .i64 a,AV.int .i64 b,AV.int .i64 c]]=xvl a b c none (fun (p:Int)=>some ((AV.int .i64 p):AV)):=by kernel_rfl
 rw [h];unfold xnw xsp xvl;repeat' (first|exact Pre.none|exact Pre.tt rfl|exact Pre.some rfl|refine Pre.l ?_|refine Pre.r ?_|refine Pre.br (f:=fun (p:Int)=>((AV.int .i64 p):AV)) ?_ ?_|refine Pre.brt (f:=fun (p:Int)=>((AV.int .i64 p):AV)) ?_ ?_)
def xBP:LA->Option (Bool×AV):=ocOf (xIQ (xI4 1 (xIP (pInt .i64) (xIP (pInt .i64) (xIP (pInt .i64) xIR)))) xIS) fun ((a,(b,(c,_))),_)=>(true,(AV.int .i64 (xnw a b c)))
def xBO:OcOk P0 xIO 109 (xBP):=xo2 fun e h f=>by
 obtain ⟨⟨a,⟨b,⟨c,_⟩⟩⟩,_⟩:=e;obtain ⟨g,d⟩:=Prod.mk.inj f;refine xnD (p:=xiV.pin) (xq0 xIf (xIg P0 _) rfl xvk Tryz.func109 rfl (by kernel_rfl) xso ((Pre.get (xBQ _ _ _) rfl).trans ?_))
 exact congrArg some d
def xF2:EO:=xyR.w xBO
def xbJ (a b:Int) (c:List UInt8) (d e:Int) (f:List UInt8):Int:=((xnw (xdg a d) (xdg b e) (Lib.compareBytes c f)))
def xte {T:Type} (a b:Int) (c:List UInt8) (d e:Int) (f:List UInt8) (δ:T) (κ:Int->T):T:=κ (xnw (xdg a d) (xdg b e) (Lib.compareBytes c f))
def xCO:EO:=xF2.fT Tryz.func173 22 0 [] [] lk0 (fun ((a,b,c,_),(d,e,f,_),_)=>xte a b c d e f none) (u2 (xI5 (u3 uI uI (sEq pStr))) (xI5 (u3 uI uI (sEq pStr)))) (fun ((a,b,c,_),(d,e,f,_),_)=>xbJ a b c d e f) (fun _ p=>(AV.int .i64 p))
def xcj (c b:LA) (a:Int):=xbJ (gC b a 0).toInt (gC b a 1).toInt (gC b a 2).toStr (gC c a 0).toInt (gC c a 1).toInt (gC c a 2).toStr
def xcw {T:Type} (e c b:LA) (d a:Int) (δ:T) (κl:(Int)->T) (κr:(Bool×(Int)×(Unit))->T):T:=br (decide (a<d)) (br (ixI b a) (br (ixT b a 3 [Sh.int .i64,Sh.int .i64,Sh.str] 0) (br (decide (a>=c.length)) (κr (true,(1),())) (br (ixI c a) (br (ixT c a 3 [Sh.int .i64,Sh.int .i64,Sh.str] 0) (br (xcj c b a != 0) (κr (true,(xcj c b a),())) (κl (i64.wrap (a+1)))) δ) δ)) δ) δ) (κr (false,0,()))
def xa9 (d e a:LA) (b:Int):StT (Int) (Bool×(Int)×(Unit)):=fun (c)=>xcw d e a b c none inL inR
def xjl:=xCO.l 39 0 [] [] Tryz.f172 0 lk0 [0,1,2,11,12,13] [0,1,6] [] (q6 (qL 3) (qL 3) (xIt 173 xIR) (qL 3) qI qI) xIR (fun (d,e,_,a,b,c,_) _=>(xa9 d e a b,(c),fun p=>(.node p.1 (.leaf .ret [AV.list 3 d,AV.list 3 e,AV.int .i64 p.2.1] []) (.leaf (.exit 0) [AV.list 3 d,AV.list 3 e,.top] [])))) (false,0,()) fun (d,e,_,a,b,_,_) _ (c)=>(((d,e,(),a,b,c,()),()),xcw d e a b c none)
def xhx {T:Type} (a b:LA) (δ:T) (κ:Int->T):T:=br ((Iter (xa9 a b a (↑a.length:Int)) 0).isSome) (br (((Iter (xa9 a b a (↑a.length:Int)) 0).getD (false,0,())).fst) (κ (((Iter (xa9 a b a (↑a.length:Int)) 0).getD (false,0,())).snd.fst)) (br (decide ((↑a.length:Int)<(↑b.length:Int))) (κ ((-1))) (κ (0)))) δ
def xjk (a b:LA):=xhx a b none some
def xF3:EO:=xCO.f Tryz.func172 39 0 [] [(2,xjl.lp)] (lk1 xjl.ok) (u3 (uL 3) (uL 3) (sEq (xIt (173:FuncId) xIR))) (fun (a,b,_,_) _=>xhx a b) (fun _ p=>AV.int .i64 p) 0
def xlQ {T:Type} (a b:LA) (δ:T) (κ:Int->T):T:=br ((xjk a b).isSome) (κ ((xjk a b).getD 0)) δ
def xko (a b:LA):=xlQ a b none some
def xF4:EO:=xF3.f Tryz.func144 8 0 [] [] lk0 (u2 (uL 3) (uL 3)) (fun (a,b,_) _=>xlQ a b) (fun _ p=>AV.int .i64 p) 0
def xks {T:Type} (a c b d:LA) (δ:T) (κ:Int->T):T:=br ((xko a b).isSome) (κ ((xko a b).getD 0)) δ
def xdk (c a d b:LA):=xks c a d b none some
def xyS:EO:=xF4.f Tryz.func143 10 0 [] [] lk0 (u2 (xI5 (u2 (uL 3) (uL 2))) (xI5 (u2 (uL 3) (uL 2)))) (fun ((c,a,_),(d,b,_),_) _=>xks c a d b) (fun _ p=>AV.int .i64 p) 0
def xdp (a:Nat) (j:Int):=decide (0<=i64.wrap (j - 1))&&decide (i64.wrap (j - 1)<(↑a:Int))
def xca (j:Int):Nat:=0+(i64.wrap (j - 1)).toNat
def xdq (a:Nat) (j:Int):=decide (0<=j)&&decide (j<(↑a:Int))
def xfl (j:Int) (a:LA):=decide (0+j.toNat<a.length)
def xfj (j:Int) (a:LA):=xfl j a&&((a.getD (0+j.toNat) .top).cells.length==2&&xIb [Sh.list 3,Sh.list 2] (a.getD (0+j.toNat) .top).cells 0)
def xbd (j:Int) (a:LA):=(a.getD (xca j) .top).cells
def xfh (j:Int) (a:LA):=decide (xca j<a.length)&&((xbd j a).length==2&&xIb [Sh.list 3,Sh.list 2] (xbd j a) 0)
def xfi (j:Int) (a:LA):=xdk ((a.getD (0+j.toNat) .top).cells.getD 0 .top).toList ((a.getD (0+j.toNat) .top).cells.getD 1 .top).toList ((xbd j a).getD 0 .top).toList ((xbd j a).getD 1 .top).toList
def xfk (j:Int) (a:LA):=a.set (0+j.toNat) (AV.agg [AV.list 3 ((xbd j a).getD 0 .top).toList,AV.list 2 ((xbd j a).getD 1 .top).toList])
def xfv {T:Type} (d:Nat) (a b i j:Int) (c:LA) (δ:T) (κl:(Int×LA)->T) (κr:(LA)->T):T:=br (decide (j>a)) (br (xdq d j) (br (xfj j c) (br (xdp d j) (br (xfh j c) (br ((xfi j c).isSome) (br (decide ((xfi j c).getD 0<0)) (br (xdp d j) (br (xfh j c) (br (xdq d j) (br (xfj j c) (br (xdq d j) (br (xfl j c) (br (xdp d j) (br (decide (xca j<(xfk j c).length)) (κl (i64.wrap (j - 1),(xfk j c).set (xca j) (AV.agg [AV.list 3 ((c.getD (0+j.toNat) .top).cells.getD 0 .top).toList,AV.list 2 ((c.getD (0+j.toNat) .top).cells.getD 1 .top).toList]))) δ) δ) δ) δ) δ) δ) δ) δ) (κr (c))) δ) δ) δ) δ) δ) (κr (c))
def xbV (d:Nat) (a b i:Int):StT (Int×LA) (LA):=fun (j,c)=>xfv d a b i j c none inL inR
def xb9:=xyS.l 53 1 [148] [] Tryz.f188 1 lk0 [0,1,2,3,8,9] [0,1,2,3,8] [] (q6 (xI0 0 0 0) qI qI (xIt 143 xIR) qI qI) (q1 (qB 0 2 148 xIT)) (fun (c,a,b,_,i,j,_) (d,_)=>(xbV c a b i,(j,d),fun p=>(.leaf (.exit 2) [AV.osl 0 0 0 c,AV.int .i64 a,AV.int .i64 b,AV.func 143 [],AV.int .i64 i] [bF 0 2 148 p]))) [] fun (c,a,b,_,i,_,_) _ (j,d)=>(((c,a,b,(),i,j,()),(d,())),xfv c a b i j d none)
def xfu {T:Type} (d:Nat) (a b i:Int) (c:LA) (δ:T) (κl:(Int×LA)->T) (κr:(LA)->T):T:=br (decide (i<b)) (br ((Iter (xbV d a b i) (i,c)).isSome) (κl (i64.wrap (i+1),(Iter (xbV d a b i) (i,c)).getD [])) δ) (κr (c))
def xbU (d:Nat) (a b:Int):StT (Int×LA) (LA):=fun (i,c)=>xfu d a b i c none inL inR
def xfg:=xyS.l 53 1 [148] [(4,xb9.lp)] Tryz.f188 0 (lk1 xb9.ok) [0,1,2,3,8] [] [] (q5 (xI0 0 0 0) qI qI (xIt 143 xIR) qI) (q1 (qB 0 2 148 xIT)) (fun (d,a,b,_,i,_) (c,_)=>(xbU d a b,(i,c),fun p=>(.leaf (.exit 0) [] [bF 0 2 148 p]))) [] fun (d,a,b,_,_,_) _ (i,c)=>(((d,a,b,(),i,()),(c,())),xfu d a b i c none)
def xea {T:Type} (n:Nat) (a b:Int) (c:LA) (δ:T) (κ:LA->T):T:=br ((Iter (xbU n a b) (i64.wrap (a+1),c)).isSome) (κ ((Iter (xbU n a b) (i64.wrap (a+1),c)).getD [])) δ
def xbD (n:Nat) (a b:Int) (c:LA):=xea n a b c none some
def xCP:EO:=xyS.fM Tryz.func188 53 1 [148] [(4,xb9.lp),(1,xfg.lp)] (lks (lkC xfg.ok (lkC xb9.ok lkN))) (u4 (sEq (xI0 0 0 0)) uI uI (sEq (xIt (143:FuncId) xIR))) (q1 (qB 0 2 148 xIT)) (fun (n,a,b,_,_) (c,_) _=>xea n a b c) (fun _ _ p=>(AV.tuple [],([bF 0 2 148 p]:List Box))) []
def xgc (a i:Int) (b:LA):=decide (0+(i64.wrap (a+i)).toNat<b.length)
def xcH (a i:Int) (b:LA):=(b.getD (0+(i64.wrap (a+i)).toNat) .top).cells
def xgd (b:Nat) (a i:Int):=decide (0<=i64.wrap (a+i))&&decide (i64.wrap (a+i)<(↑b:Int))
def xge (a:Nat) (b i:Int):=decide (0<=i64.wrap (b+i))&&decide (i64.wrap (b+i)<(↑a:Int))
def xcI (b i:Int):Nat:=0+(i64.wrap (b+i)).toNat
def xcG (b i:Int) (a:LA):=(a.getD (xcI b i) .top).cells
def xgb (a b i:Int) (c:LA):=c.set (0+(i64.wrap (a+i)).toNat) (AV.agg [AV.list 3 ((xcG b i c).getD 0 .top).toList,AV.list 2 ((xcG b i c).getD 1 .top).toList])
def xgD {T:Type} (d:Nat) (a b n i:Int) (c:LA) (δ:T) (κl:(Int×LA)->T) (κr:(LA)->T):T:=br (decide (i<n)) (br (xge d b i) (br (decide (xcI b i<c.length)&&((xcG b i c).length==2&&xIb [Sh.list 3,Sh.list 2] (xcG b i c) 0)) (br (xgd d a i) (br (xgc a i c&&((xcH a i c).length==2&&xIb [Sh.list 3,Sh.list 2] (xcH a i c) 0)) (br (xgd d a i) (br (xgc a i c) (br (xge d b i) (br (decide (xcI b i<(xgb a b i c).length)) (κl (i64.wrap (i+1),(xgb a b i c).set (xcI b i) (AV.agg [AV.list 3 ((xcH a i c).getD 0 .top).toList,AV.list 2 ((xcH a i c).getD 1 .top).toList]))) δ) δ) δ) δ) δ) δ) δ) δ) (κr (c))
def xcr (d:Nat) (a b n:Int):StT (Int×LA) (LA):=fun (i,c)=>xgD d a b n i c none inL inR
def xga:=xCP.l 38 1 [148] [] Tryz.f213 0 lk0 [0,1,2,3,10] [] [] (q5 (xI0 0 0 0) qI qI qI qI) (q1 (qB 0 2 148 xIT)) (fun (d,a,b,n,i,_) (c,_)=>(xcr d a b n,(i,c),fun p=>(.leaf (.exit 0) [] [bF 0 2 148 p]))) [] fun (d,a,b,n,_,_) _ (i,c)=>(((d,a,b,n,i,()),(c,())),xgD d a b n i c none)
def xeW {T:Type} (n:Nat) (a b k:Int) (c:LA) (δ:T) (κ:LA->T):T:=br ((Iter (xcr n a b k) (0,c)).isSome) (κ ((Iter (xcr n a b k) (0,c)).getD [])) δ
def xbl (n:Nat) (a b k:Int) (c:LA):=xeW n a b k c none some
def xCQ:EO:=xCP.fM Tryz.func213 38 1 [148] [(1,xga.lp)] (lk1 xga.ok) (u5 (sEq (xI0 0 0 0)) uI uI uI (sEq (xIt (143:FuncId) xIR))) (q1 (qB 0 2 148 xIT)) (fun (n,a,b,k,_,_) (c,_) _=>xeW n a b k c) (fun _ _ p=>(AV.tuple [],([bF 0 2 148 p]:List Box))) []
def xhP {T:Type} (b:Nat) (m i j:Int) (a:LA) (δ:T) (κl:(Int×Int×LA)->T) (κr:(Int×LA)->T):T:=br (i != j) (br (decide (i>j)) (br ((xbl b (i64.wrap (m - i)) m j a).isSome) (κl (i64.wrap (i - j),j,(xbl b (i64.wrap (m - i)) m j a).getD [])) δ) (br ((xbl b (i64.wrap (m - i)) (i64.wrap (i64.wrap (m+j) - i)) i a).isSome) (κl (i,i64.wrap (j - i),(xbl b (i64.wrap (m - i)) (i64.wrap (i64.wrap (m+j) - i)) i a).getD [])) δ)) (κr (i,a))
def xek (b:Nat) (m:Int):StT (Int×Int×LA) (Int×LA):=fun (i,j,a)=>xhP b m i j a none inL inR
def xhB:=xCQ.l 58 1 [148] [] Tryz.f206 0 lk0 [0,2,4,10,11] [0,2,4,10] [] (q5 (xI0 0 0 0) qI (xIt 143 xIR) qI qI) (q1 (qB 0 2 148 xIT)) (fun (a,m,_,i,j,_) (b,_)=>(xek a m,(i,j,b),fun p=>(.leaf (.exit 0) [AV.osl 0 0 0 a,AV.int .i64 m,AV.func 143 [],AV.int .i64 p.1] [bF 0 2 148 p.2]))) (0,[]) fun (a,m,_,_,_,_) _ (i,j,b)=>(((a,m,(),i,j,()),(b,())),xhP a m i j b none)
def xcQ (n:Nat) (a m b:Int) (c:LA):=Iter (xek n m) (i64.wrap (m - a),i64.wrap (b - m),c)
def xfG (n:Nat) (a m b:Int) (c:LA):=xbl n (i64.wrap (m - (((xcQ n a m b c).getD (0,[])).fst))) m (((xcQ n a m b c).getD (0,[])).fst) ((xcQ n a m b c).getD (0,[])).snd
def xf3 {T:Type} (n:Nat) (a m b:Int) (c:LA) (δ:T) (κ:LA->T):T:=br ((xcQ n a m b c).isSome) (br ((xfG n a m b c).isSome) (κ ((xfG n a m b c).getD [])) δ) δ
def xb5 (n:Nat) (a m b:Int) (c:LA):=xf3 n a m b c none some
def xnb:EO:=xCQ.fM Tryz.func206 58 1 [148] [(2,xhB.lp)] (lk1 xhB.ok) (u5 (sEq (xI0 0 0 0)) uI uI uI (sEq (xIt (143:FuncId) xIR))) (q1 (qB 0 2 148 xIT)) (fun (n,a,m,b,_,_) (c,_) _=>xf3 n a m b c) (fun _ _ p=>(AV.tuple [],([bF 0 2 148 p]:List Box))) []
def xbu (i j:Int):=i64.wrap ((u64.wrap (i64.wrap (i+j))).fdiv 2)
def xcT (i j:Int) (a:LA):=(a.getD (0+(xbu i j).toNat) .top).cells
def xgE (a i j:Int) (b:LA):=xdk ((xcT i j b).getD 0 .top).toList ((xcT i j b).getD 1 .top).toList ((b.getD (0+a.toNat) .top).cells.getD 0 .top).toList ((b.getD (0+a.toNat) .top).cells.getD 1 .top).toList
def xg7 {T:Type} (c:Nat) (a i j:Int) (b:LA) (δ:T) (κl:(Int×Int×LA)->T) (κr:(Int×LA)->T):T:=br (decide (i<j)) (br (decide (0<=xbu i j)&&decide (xbu i j<(↑c:Int))) (br (decide (0+(xbu i j).toNat<b.length)&&((xcT i j b).length==2&&xIb [Sh.list 3,Sh.list 2] (xcT i j b) 0)) (br (decide (0<=a)&&decide (a<(↑c:Int))) (br (decide (0+a.toNat<b.length)&&((b.getD (0+a.toNat) .top).cells.length==2&&xIb [Sh.list 3,Sh.list 2] (b.getD (0+a.toNat) .top).cells 0)) (br ((xgE a i j b).isSome) (br (decide ((xgE a i j b).getD 0<0)) (κl (i64.wrap (xbu i j+1),j,b)) (κl (i,xbu i j,b))) δ) δ) δ) δ) δ) (κr (i,b))
def xbL (c:Nat) (a:Int):StT (Int×Int×LA) (Int×LA):=fun (i,j,b)=>xg7 c a i j b none inL inR
def xbg:=xnb.l 220 1 [148] [] Tryz.f189 0 lk0 [0,1,4,10,11] [0,1,10] [] (q5 (xI0 0 0 0) qI (xIt 143 xIR) qI qI) (q1 (qB 0 2 148 xIT)) (fun (b,a,_,i,j,_) (c,_)=>(xbL b a,(i,j,c),fun p=>(.leaf (.exit 0) [AV.osl 0 0 0 b,AV.int .i64 a,AV.int .i64 p.1] [bF 0 2 148 p.2]))) (0,[]) fun (b,a,_,_,_,_) _ (i,j,c)=>(((b,a,(),i,j,()),(c,())),xg7 b a i j c none)
def xgG (a:Nat) (k:Int):=decide (0<=i64.wrap (k+1))&&decide (i64.wrap (k+1)<(↑a:Int))
def xcV (k:Int):Nat:=0+(i64.wrap (k+1)).toNat
def xgH (k:Int) (a:LA):=decide (0+k.toNat<a.length)
def xcU (k:Int) (a:LA):=(a.getD (xcV k) .top).cells
def xgF (k:Int) (a:LA):=a.set (0+k.toNat) (AV.agg [AV.list 3 ((xcU k a).getD 0 .top).toList,AV.list 2 ((xcU k a).getD 1 .top).toList])
def xg8 {T:Type} (b:Nat) (i k:Int) (a:LA) (δ:T) (κl:(Int×LA)->T) (κr:(LA)->T):T:=br (decide (k<i64.wrap (i - 1))) (br (xgG b k) (br (decide (xcV k<a.length)&&((xcU k a).length==2&&xIb [Sh.list 3,Sh.list 2] (xcU k a) 0)) (br (decide (0<=k)&&decide (k<(↑b:Int))) (br (xgH k a&&((a.getD (0+k.toNat) .top).cells.length==2&&xIb [Sh.list 3,Sh.list 2] (a.getD (0+k.toNat) .top).cells 0)) (br (decide (0<=k)&&decide (k<(↑b:Int))) (br (xgH k a) (br (xgG b k) (br (decide (xcV k<(xgF k a).length)) (κl (i64.wrap (k+1),(xgF k a).set (xcV k) (AV.agg [AV.list 3 ((a.getD (0+k.toNat) .top).cells.getD 0 .top).toList,AV.list 2 ((a.getD (0+k.toNat) .top).cells.getD 1 .top).toList]))) δ) δ) δ) δ) δ) δ) δ) δ) (κr (a))
def xdN (b:Nat) (i:Int):StT (Int×LA) (LA):=fun (k,a)=>xg8 b i k a none inL inR
def xbv:=xnb.l 220 1 [148] [(3,xbg.lp)] Tryz.f189 1 lk0 [0,10,13] [] [] (q3 (xI0 0 0 0) qI qI) (q1 (qB 0 2 148 xIT)) (fun (b,i,k,_) (a,_)=>(xdN b i,(k,a),fun p=>(.leaf (.exit 2) [] [bF 0 2 148 p]))) [] fun (b,i,_,_) _ (k,a)=>(((b,i,k,()),(a,())),xg8 b i k a none)
def xbw (i j:Int):=i64.wrap ((u64.wrap (i64.wrap (i+j))).fdiv 2)
def xcW (i j:Int) (a:LA):=(a.getD (0+(xbw i j).toNat) .top).cells
def xgI (m i j:Int) (a:LA):=xdk ((a.getD (0+m.toNat) .top).cells.getD 0 .top).toList ((a.getD (0+m.toNat) .top).cells.getD 1 .top).toList ((xcW i j a).getD 0 .top).toList ((xcW i j a).getD 1 .top).toList
def xg9 {T:Type} (b:Nat) (m i j:Int) (a:LA) (δ:T) (κl:(Int×Int×LA)->T) (κr:(Int×LA)->T):T:=br (decide (i<j)) (br (decide (0<=m)&&decide (m<(↑b:Int))) (br (decide (0+m.toNat<a.length)&&((a.getD (0+m.toNat) .top).cells.length==2&&xIb [Sh.list 3,Sh.list 2] (a.getD (0+m.toNat) .top).cells 0)) (br (decide (0<=xbw i j)&&decide (xbw i j<(↑b:Int))) (br (decide (0+(xbw i j).toNat<a.length)&&((xcW i j a).length==2&&xIb [Sh.list 3,Sh.list 2] (xcW i j a) 0)) (br ((xgI m i j a).isSome) (br (!decide ((xgI m i j a).getD 0<0)) (κl (i64.wrap (xbw i j+1),j,a)) (κl (i,xbw i j,a))) δ) δ) δ) δ) δ) (κr (i,a))
def xbM (b:Nat) (m:Int):StT (Int×Int×LA) (Int×LA):=fun (i,j,a)=>xg9 b m i j a none inL inR
def xb4:=xnb.l 220 1 [148] [(3,xbg.lp),(9,xbv.lp)] Tryz.f189 2 lk0 [0,2,4,14,15] [0,2,14] [] (q5 (xI0 0 0 0) qI (xIt 143 xIR) qI qI) (q1 (qB 0 2 148 xIT)) (fun (a,m,_,i,j,_) (b,_)=>(xbM a m,(i,j,b),fun p=>(.leaf (.exit 4) [AV.osl 0 0 0 a,AV.int .i64 m,AV.int .i64 p.1] [bF 0 2 148 p.2]))) (0,[]) fun (a,m,_,_,_,_) _ (i,j,b)=>(((a,m,(),i,j,()),(b,())),xg9 a m i j b none)
def xgK (a:Nat) (k:Int):=decide (0<=i64.wrap (k - 1))&&decide (i64.wrap (k - 1)<(↑a:Int))
def xcZ (k:Int):Nat:=0+(i64.wrap (k - 1)).toNat
def xgL (k:Int) (a:LA):=decide (0+k.toNat<a.length)
def xcY (k:Int) (a:LA):=(a.getD (xcZ k) .top).cells
def xgJ (k:Int) (a:LA):=a.set (0+k.toNat) (AV.agg [AV.list 3 ((xcY k a).getD 0 .top).toList,AV.list 2 ((xcY k a).getD 1 .top).toList])
def xha {T:Type} (b:Nat) (i k:Int) (a:LA) (δ:T) (κl:(Int×LA)->T) (κr:(LA)->T):T:=br (decide (k>i)) (br (xgK b k) (br (decide (xcZ k<a.length)&&((xcY k a).length==2&&xIb [Sh.list 3,Sh.list 2] (xcY k a) 0)) (br (decide (0<=k)&&decide (k<(↑b:Int))) (br (xgL k a&&((a.getD (0+k.toNat) .top).cells.length==2&&xIb [Sh.list 3,Sh.list 2] (a.getD (0+k.toNat) .top).cells 0)) (br (decide (0<=k)&&decide (k<(↑b:Int))) (br (xgL k a) (br (xgK b k) (br (decide (xcZ k<(xgJ k a).length)) (κl (i64.wrap (k - 1),(xgJ k a).set (xcZ k) (AV.agg [AV.list 3 ((a.getD (0+k.toNat) .top).cells.getD 0 .top).toList,AV.list 2 ((a.getD (0+k.toNat) .top).cells.getD 1 .top).toList]))) δ) δ) δ) δ) δ) δ) δ) δ) (κr (a))
def xdO (b:Nat) (i:Int):StT (Int×LA) (LA):=fun (k,a)=>xha b i k a none inL inR
def xcX:=xnb.l 220 1 [148] [(3,xbg.lp),(9,xbv.lp),(15,xb4.lp)] Tryz.f189 3 lk0 [0,14,17] [] [] (q3 (xI0 0 0 0) qI qI) (q1 (qB 0 2 148 xIT)) (fun (b,i,k,_) (a,_)=>(xdO b i,(k,a),fun p=>(.leaf (.exit 6) [] [bF 0 2 148 p]))) [] fun (b,i,_,_) _ (k,a)=>(((b,i,k,()),(a,())),xha b i k a none)
def xaW (a r:Int):=i64.wrap ((u64.wrap (i64.wrap (a+r))).fdiv 2)
def xcx (c b r:Int) (a:LA):=(a.getD (0+(i64.wrap (c - xaW b r)).toNat) .top).cells
def xc0 (b r:Int) (a:LA):=(a.getD (0+(xaW b r).toNat) .top).cells
def xgM (c b r:Int) (a:LA):=xdk ((xcx c b r a).getD 0 .top).toList ((xcx c b r a).getD 1 .top).toList ((xc0 b r a).getD 0 .top).toList ((xc0 b r a).getD 1 .top).toList
def xhb {T:Type} (e:Nat) (a m b g n f c r:Int) (d:LA) (δ:T) (κl:(Int×Int×LA)->T) (κr:(Int×LA)->T):T:=br (decide (c<r)) (br (decide (0<=i64.wrap (f - xaW c r))&&decide (i64.wrap (f - xaW c r)<(↑e:Int))) (br (decide (0+(i64.wrap (f - xaW c r)).toNat<d.length)&&((xcx f c r d).length==2&&xIb [Sh.list 3,Sh.list 2] (xcx f c r d) 0)) (br (decide (0<=xaW c r)&&decide (xaW c r<(↑e:Int))) (br (decide (0+(xaW c r).toNat<d.length)&&((xc0 c r d).length==2&&xIb [Sh.list 3,Sh.list 2] (xc0 c r d) 0)) (br ((xgM f c r d).isSome) (br (!decide ((xgM f c r d).getD 0<0)) (κl (i64.wrap (xaW c r+1),r,d)) (κl (c,xaW c r,d))) δ) δ) δ) δ) δ) (κr (c,d))
def xcD (d:Nat) (a m b f n g:Int):StT (Int×Int×LA) (Int×LA):=fun (e,r,c)=>xhb d a m b f n g e r c none inL inR
def xel:=xnb.l 220 1 [148] [(3,xbg.lp),(9,xbv.lp),(15,xb4.lp),(21,xcX.lp)] Tryz.f189 4 lk0 [0,1,2,3,4,18,19,20,21,22] [0,1,2,3,4,18,19,20] [] (q10 (xI0 0 0 0) qI qI qI (xIt 143 xIR) qI qI qI qI qI) (q1 (qB 0 2 148 xIT)) (fun (c,a,m,b,_,f,n,e,r,g,_) (d,_)=>(xcD c a m b f n g,(e,r,d),fun p=>(.leaf (.exit 8) [AV.osl 0 0 0 c,AV.int .i64 a,AV.int .i64 m,AV.int .i64 b,AV.func 143 [],AV.int .i64 f,AV.int .i64 n,AV.int .i64 p.1] [bF 0 2 148 p.2]))) (0,[]) fun (c,a,m,b,_,f,n,_,_,g,_) _ (e,r,d)=>(((c,a,m,b,(),f,n,e,r,g,()),(d,())),xhb c a m b f n g e r d none)
def xey (R:Nat->Int->Int->Int->LA->Option (LA)):LA->List Box->Option (Bool×AV×List Box):=omOf (xIQ (sEq (xI0 0 0 0)) (xIQ (sEq (pInt .i64)) (xIQ (sEq (pInt .i64)) (xIQ (sEq (pInt .i64)) (xIQ (sEq (xIt (143:FuncId) xIR)) xIS))))) (xIP (xI3 0 2 (148:TypeId) false true xIT) xIR) fun (n,(a,(m,(b,(_,_))))) (c,_)=>((R n a m b c).isSome,(AV.tuple [],([⟨0,2,148,((R n a m b c).getD []),false,true⟩]:List Box)))
def xcS (R:Nat->Int->Int->Int->LA->Option (LA)):Prop:=OmOk P0 xIO 189 (xey R)
def xaY (R:Nat->Int->Int->Int->LA->Option (LA)):Env:=(xnb.E.withM 189 (xey R)).fn 220 1 (lsOf [148]) (xIs [(3,xbg.lp),(9,xbv.lp),(15,xb4.lp),(21,xcX.lp),(33,xel.lp)])
def xlE (R:Nat->Int->Int->Int->LA->Option (LA)) (a:xcS R):xH6 P0 (xIO.at 1) (xaY R):=(xnb.ok.withM a).fn
def xkc (R:Nat->Int->Int->Int->LA->Option (LA)) (c:xcS R):LoOk P0 (xIO.at (xaY R).pin) (xaY R) (Tryz.f189.body.getD .skip):=xkw (ls:=[xIa Tryz.f189 0,xIa Tryz.f189 1,xIa Tryz.f189 2,xIa Tryz.f189 3,xIa Tryz.f189 4]) (by kernel_rfl) (fun l b lp a=>by
 simp only [zC,List.not_mem_nil,or_false] at b;rcases b with rfl|rfl|rfl|rfl|rfl
 . rw [show (xaY R).lp (xIk (xIa Tryz.f189 0))=some (xbg.lp) by kernel_rfl] at a
   simp only [z6] at a;subst a;exact xbg.ok
 . rw [show (xaY R).lp (xIk (xIa Tryz.f189 1))=some (xbv.lp) by kernel_rfl] at a
   simp only [z6] at a;subst a;exact xbv.ok
 . rw [show (xaY R).lp (xIk (xIa Tryz.f189 2))=some (xb4.lp) by kernel_rfl] at a
   simp only [z6] at a;subst a;exact xb4.ok
 . rw [show (xaY R).lp (xIk (xIa Tryz.f189 3))=some (xcX.lp) by kernel_rfl] at a
   simp only [z6] at a;subst a;exact xcX.ok
 . rw [show (xaY R).lp (xIk (xIa Tryz.f189 4))=some (xel.lp) by kernel_rfl] at a
   simp only [z6] at a;subst a;exact xel.ok)
def xaa (a b:Int):=i64.wrap ((u64.wrap (i64.wrap (a+b))).fdiv 2)
def xaC (n:Nat) (a m:Int) (b:LA):=Iter (xdO n ((Iter (xbM n m) (a,m,b)).getD (0,[])).fst) (m,((Iter (xbM n m) (a,m,b)).getD (0,[])).snd)
def xaD (n:Nat) (a m b:Int) (c:LA):=Iter (xdN n ((Iter (xbL n a) (m,b,c)).getD (0,[])).fst) (a,((Iter (xbL n a) (m,b,c)).getD (0,[])).snd)
def xau (n:Nat) (a m b:Int) (c:LA):=Iter (xcD n a m b (xaa a b) (i64.wrap (xaa a b+m)) (i64.wrap (i64.wrap (xaa a b+m) - 1))) (i64.wrap (i64.wrap (xaa a b+m) - b),xaa a b,c)
def xav (n:Nat) (a m b:Int) (c:LA):=Iter (xcD n a m b (xaa a b) (i64.wrap (xaa a b+m)) (i64.wrap (i64.wrap (xaa a b+m) - 1))) (a,m,c)
def xab (n:Nat) (a m b:Int) (c:LA):=((xau n a m b c).getD (0,[])).fst
def xac (n:Nat) (a m b:Int) (c:LA):=((xav n a m b c).getD (0,[])).fst
def xaf (n:Nat) (a m b:Int) (c:LA):=((xau n a m b c).getD (0,[])).snd
def xag (n:Nat) (a m b:Int) (c:LA):=((xav n a m b c).getD (0,[])).snd
def xad (n:Nat) (a m b:Int) (c:LA):=i64.wrap (i64.wrap (xaa a b+m) - xab n a m b c)
def xae (n:Nat) (a m b:Int) (c:LA):=i64.wrap (i64.wrap (xaa a b+m) - xac n a m b c)
def xay (n:Nat) (a m b:Int) (c:LA):=decide (xab n a m b c<xaa a b)
def xaz (n:Nat) (a m b:Int) (c:LA):=decide (a<xab n a m b c)
def xaA (n:Nat) (a m b:Int) (c:LA):=decide (xac n a m b c<xaa a b)
def xaB (n:Nat) (a m b:Int) (c:LA):=decide (a<xac n a m b c)
def xak (n:Nat) (a m b:Int) (c:LA):=decide (xaa a b<xad n a m b c)
def xal (n:Nat) (a m b:Int) (c:LA):=decide (xad n a m b c<b)
def xam (n:Nat) (a m b:Int) (c:LA):=decide (xaa a b<xae n a m b c)
def xan (n:Nat) (a m b:Int) (c:LA):=decide (xae n a m b c<b)
def xah (n:Nat) (a m b:Int) (c:LA):=(xb5 n (xab n a m b c) m (xad n a m b c) (xaf n a m b c)).getD []
def xai (n:Nat) (a m b:Int) (c:LA):=(xb5 n (xac n a m b c) m (xae n a m b c) (xag n a m b c)).getD []
def xaE (R:Nat->Int->Int->Int->LA->Option (LA)) (n:Nat) (a m b:Int) (c:LA):Option (LA):=R n (xaa a b) (xae n a m b c) b ((R n a (xac n a m b c) (xaa a b) (xai n a m b c)).getD [])
def xaF (R:Nat->Int->Int->Int->LA->Option (LA)) (n:Nat) (a m b:Int) (c:LA):Option (LA):=R n (xaa a b) (xad n a m b c) b ((R n a (xab n a m b c) (xaa a b) (xah n a m b c)).getD [])
def xaq {T:Type} (R:Nat->Int->Int->Int->LA->Option (LA)) (n:Nat) (a m b:Int) (c:LA) (δ:T) (κ:LA->T):T:=br (xak n a m b c) (br (xal n a m b c) (br ((R n (xaa a b) (xad n a m b c) b (xah n a m b c)).isSome) (κ ((R n (xaa a b) (xad n a m b c) b (xah n a m b c)).getD [])) δ) (κ (xah n a m b c))) (κ (xah n a m b c))
def xar {T:Type} (R:Nat->Int->Int->Int->LA->Option (LA)) (n:Nat) (a m b:Int) (c:LA) (δ:T) (κ:LA->T):T:=br (xam n a m b c) (br (xan n a m b c) (br ((R n (xaa a b) (xae n a m b c) b (xai n a m b c)).isSome) (κ ((R n (xaa a b) (xae n a m b c) b (xai n a m b c)).getD [])) δ) (κ (xai n a m b c))) (κ (xai n a m b c))
def xas {T:Type} (R:Nat->Int->Int->Int->LA->Option (LA)) (n:Nat) (a m b:Int) (c:LA) (δ:T) (κ:LA->T):T:=br (xak n a m b c) (br (xal n a m b c) (br ((R n (xaa a b) (xad n a m b c) b (xaf n a m b c)).isSome) (κ ((R n (xaa a b) (xad n a m b c) b (xaf n a m b c)).getD [])) δ) (κ (xaf n a m b c))) (κ (xaf n a m b c))
def xao {T:Type} (R:Nat->Int->Int->Int->LA->Option (LA)) (n:Nat) (a m b:Int) (c:LA) (δ:T) (κ:LA->T):T:=br (xaz n a m b c) (br (xay n a m b c) (br ((R n a (xab n a m b c) (xaa a b) (xaf n a m b c)).isSome) (br (xak n a m b c) (br (xal n a m b c) (br ((R n (xaa a b) (xad n a m b c) b ((R n a (xab n a m b c) (xaa a b) (xaf n a m b c)).getD [])).isSome) (κ ((R n (xaa a b) (xad n a m b c) b ((R n a (xab n a m b c) (xaa a b) (xaf n a m b c)).getD [])).getD [])) δ) (κ ((R n a (xab n a m b c) (xaa a b) (xaf n a m b c)).getD []))) (κ ((R n a (xab n a m b c) (xaa a b) (xaf n a m b c)).getD []))) δ) (xas R n a m b c δ κ)) (xas R n a m b c δ κ)
def xat {T:Type} (R:Nat->Int->Int->Int->LA->Option (LA)) (n:Nat) (a m b:Int) (c:LA) (δ:T) (κ:LA->T):T:=br (xam n a m b c) (br (xan n a m b c) (br ((R n (xaa a b) (xae n a m b c) b (xag n a m b c)).isSome) (κ ((R n (xaa a b) (xae n a m b c) b (xag n a m b c)).getD [])) δ) (κ (xag n a m b c))) (κ (xag n a m b c))
def xap {T:Type} (R:Nat->Int->Int->Int->LA->Option (LA)) (n:Nat) (a m b:Int) (c:LA) (δ:T) (κ:LA->T):T:=br (xaB n a m b c) (br (xaA n a m b c) (br ((R n a (xac n a m b c) (xaa a b) (xag n a m b c)).isSome) (br (xam n a m b c) (br (xan n a m b c) (br ((R n (xaa a b) (xae n a m b c) b ((R n a (xac n a m b c) (xaa a b) (xag n a m b c)).getD [])).isSome) (κ ((R n (xaa a b) (xae n a m b c) b ((R n a (xac n a m b c) (xaa a b) (xag n a m b c)).getD [])).getD [])) δ) (κ ((R n a (xac n a m b c) (xaa a b) (xag n a m b c)).getD []))) (κ ((R n a (xac n a m b c) (xaa a b) (xag n a m b c)).getD []))) δ) (xat R n a m b c δ κ)) (xat R n a m b c δ κ)
def xaG {T:Type} (R:Nat->Int->Int->Int->LA->Option (LA)) (n:Nat) (a m b:Int) (c:LA) (δ:T) (κ:LA->T):T:=br (i64.wrap (m - a)==1) (br ((Iter (xbL n a) (m,b,c)).isSome) (br ((xaD n a m b c).isSome) (κ ((xaD n a m b c).getD [])) δ) δ) (br (i64.wrap (b - m)==1) (br ((Iter (xbM n m) (a,m,c)).isSome) (br ((xaC n a m c).isSome) (κ ((xaC n a m c).getD [])) δ) δ) (br (decide (m>xaa a b)) (br ((xau n a m b c).isSome) (br (decide (xab n a m b c<m)) (br (decide (m<xad n a m b c)) (br ((xb5 n (xab n a m b c) m (xad n a m b c) (xaf n a m b c)).isSome) (br (xaz n a m b c) (br (xay n a m b c) (br ((R n a (xab n a m b c) (xaa a b) (xah n a m b c)).isSome) (br (xak n a m b c) (br (xal n a m b c) (br ((xaF R n a m b c).isSome) (κ ((xaF R n a m b c).getD [])) δ) (κ ((R n a (xab n a m b c) (xaa a b) (xah n a m b c)).getD []))) (κ ((R n a (xab n a m b c) (xaa a b) (xah n a m b c)).getD []))) δ) (xaq R n a m b c δ κ)) (xaq R n a m b c δ κ)) δ) (xao R n a m b c δ κ)) (xao R n a m b c δ κ)) δ) (br ((xav n a m b c).isSome) (br (decide (xac n a m b c<m)) (br (decide (m<xae n a m b c)) (br ((xb5 n (xac n a m b c) m (xae n a m b c) (xag n a m b c)).isSome) (br (xaB n a m b c) (br (xaA n a m b c) (br ((R n a (xac n a m b c) (xaa a b) (xai n a m b c)).isSome) (br (xam n a m b c) (br (xan n a m b c) (br ((xaE R n a m b c).isSome) (κ ((xaE R n a m b c).getD [])) δ) (κ ((R n a (xac n a m b c) (xaa a b) (xai n a m b c)).getD []))) (κ ((R n a (xac n a m b c) (xaa a b) (xai n a m b c)).getD []))) δ) (xar R n a m b c δ κ)) (xar R n a m b c δ κ)) δ) (xap R n a m b c δ κ)) (xap R n a m b c δ κ)) δ)))
def xaw (R:Nat->Int->Int->Int->LA->Option (LA)) (n:Nat) (a m b:Int) (c:LA):=xaG R n a m b c none some
def xmX (R:Nat->Int->Int->Int->LA->Option (LA)) (n:Nat) (a m b:Int) (xs:LA):Enc (fun (p:LA)=>(((AV.tuple [],([⟨0,2,148,p,false,true⟩]:List Box))):(AV×List Box))) (xaw R n a m b xs) (XFM P0 (xaY R) Tryz.f189 (Tryz.f189.body.getD .skip) [AV.osl (0:Id) 0 0 n,AV.int .i64 a,AV.int .i64 m,AV.int .i64 b,AV.func (143:FuncId) []] [{ ver:=0,sz:=2,ty:=(148:TypeId),xs:=xs,frz:=false,pm:=true }]):=by
 have h:XFM P0 (xaY R) Tryz.f189 (Tryz.f189.body.getD .skip) [AV.osl (0:Id) 0 0 n,AV.int .i64 a,AV.int .i64 m,AV.int .i64 b,AV.func (143:FuncId) []] [{ ver:=0,sz:=2,ty:=(148:TypeId),xs:=xs,frz:=false,pm:=true }]=xaG R n a m b xs none (fun (p:LA)=>some (((AV.tuple [],([⟨0,2,148,p,false,true⟩]:List Box))):(AV×List Box))):=by kernel_rfl
 rw [h];unfold xaw xaG xao xap xaq xar xas xat;repeat' (first|refine Enc.br ?_ ?_|exact Enc.none|exact Enc.some rfl)
def xmW (R:Nat->Int->Int->Int->LA->Option (LA)):LA->List Box->Option (Bool×AV×List Box):=omOf (xIQ (sEq (xI0 0 0 0)) (xIQ (sEq (pInt .i64)) (xIQ (sEq (pInt .i64)) (xIQ (sEq (pInt .i64)) (xIQ (sEq (xIt (143:FuncId) xIR)) xIS))))) (xIP (xI3 0 2 (148:TypeId) false true xIT) xIR) fun (n,(a,(m,(b,(_,_))))) (c,_)=>((xaw R n a m b c).isSome,((AV.tuple [],([⟨0,2,148,((xaw R n a m b c).getD []),false,true⟩]:List Box))))
def xmV (R:Nat->Int->Int->Int->LA->Option (LA)) (c:xcS R):OmOk P0 xIO 189 (xmW R):=xjK fun g h k j i=>by
 obtain ⟨n,⟨a,⟨m,⟨b,⟨_,_⟩⟩⟩⟩⟩:=g;obtain ⟨l,_⟩:=h;obtain ⟨e,f⟩:=Prod.mk.inj i;refine xmt (p:=(xaY R).pin) (xms xIf (xIg P0 _) rfl (xlE R c) rfl Tryz.func189 rfl (by kernel_rfl) (xkc R c) ((xmX R _ _ _ _ _ _ (xeI (d:=[]) e)).trans ?_))
 exact congrArg some f
def xaV:Nat->Nat->Int->Int->Int->LA->Option (LA)
 | 0=>fun _ _ _ _ _=>none
 | fu_+1=>fun n a m b c=>xaw (xaV fu_) n a m b c
def xg6:∀ n,xcS (xaV n)
 | 0=>xjK fun _ _ _ _ h=>absurd (Prod.mk.inj h).1 Bool.false_ne_true
 | fu_+1=>fun a H r b h=>xmV (xaV fu_) (xg6 fu_) a H r b h
def xCR:Env:=xnb.E.withM 189 (xey (xaV 1000))
def xBB:xH6 P0 xIO xCR:=xnb.ok.withM (xg6 _)
def xpd:EO:=EO.mk xCR xBB
def xhQ {T:Type} (d:Nat) (n e a b:Int) (c:LA) (δ:T) (κl:(Int×Int×LA)->T) (κr:(Int×LA)->T):T:=br (decide (b<=n)) (br ((xbD d a b c).isSome) (κl (b,i64.wrap (b+e),(xbD d a b c).getD [])) δ) (κr (a,c))
def xb3 (e:Nat) (n c:Int):StT (Int×Int×LA) (Int×LA):=fun (a,b,d)=>xhQ e n c a b d none inL inR
def xdr:=xpd.l 63 1 [148] [] Tryz.f171 0 lk0 [0,1,2,6,7,8] [0,1,2,6,7] [] (q6 (xI0 0 0 0) qI (xIt 143 xIR) qI qI qI) (q1 (qB 0 2 148 xIT)) (fun (d,n,_,c,a,b,_) (e,_)=>(xb3 d n c,(a,b,e),fun p=>(.leaf (.exit 0) [AV.osl 0 0 0 d,AV.int .i64 n,AV.func 143 [],AV.int .i64 c,AV.int .i64 p.1] [bF 0 2 148 p.2]))) (0,[]) fun (d,n,_,c,_,_,_) _ (a,b,e)=>(((d,n,(),c,a,b,()),(e,())),xhQ d n c a b e none)
def xhR {T:Type} (e:Nat) (n c a b:Int) (d:LA) (δ:T) (κl:(Int×Int×LA)->T) (κr:(Int×LA)->T):T:=br (decide (b<=n)) (br ((xaV 1000 e a (i64.wrap (a+c)) b d).isSome) (κl (b,i64.wrap (b+i64.wrap (2*c)),(xaV 1000 e a (i64.wrap (a+c)) b d).getD [])) δ) (κr (a,d))
def xcR (e:Nat) (n c:Int):StT (Int×Int×LA) (Int×LA):=fun (a,b,d)=>xhR e n c a b d none inL inR
def xdv:=xpd.l 63 1 [148] [(2,xdr.lp)] Tryz.f171 2 lk0 [0,1,2,6,7,8] [0,1,2,6,7] [] (q6 (xI0 0 0 0) qI (xIt 143 xIR) qI qI qI) (q1 (qB 0 2 148 xIT)) (fun (d,n,_,c,a,b,_) (e,_)=>(xcR d n c,(a,b,e),fun p=>(.leaf (.exit 4) [AV.osl 0 0 0 d,AV.int .i64 n,AV.func 143 [],AV.int .i64 c,AV.int .i64 p.1] [bF 0 2 148 p.2]))) (0,[]) fun (d,n,_,c,_,_,_) _ (a,b,e)=>(((d,n,(),c,a,b,()),(e,())),xhR d n c a b e none)
def xdu (c:Nat) (n a:Int) (b:LA):=Iter (xcR c n a) (0,i64.wrap (2*a),b)
def xbI (c:Nat) (n a:Int) (b:LA):=(xdu c n a b).getD (0,[])
def xdt (c:Nat) (n a:Int) (b:LA):=i64.wrap (((xbI c n a b).fst)+a)
def xds (b:Nat) (n a:Int) (c:LA):=xaV 1000 b ((xbI b n a c).fst) (xdt b n a c) n ((xbI b n a c).snd)
def xct {T:Type} (c:Nat) (n a:Int) (b:LA) (δ:T) (κl:(Int×LA)->T) (κr:(LA)->T):T:=br (decide (a<n)) (br ((xdu c n a b).isSome) (br (decide (xdt c n a b<n)) (br ((xds c n a b).isSome) (κl (i64.wrap (a*2),(xds c n a b).getD [])) δ) (κl (i64.wrap (a*2),((xbI c n a b).snd)))) δ) (κr (b))
def xbf (c:Nat) (n:Int):StT (Int×LA) (LA):=fun (a,b)=>xct c n a b none inL inR
def xhC:=xpd.l 63 1 [148] [(2,xdr.lp),(9,xdv.lp)] Tryz.f171 1 (lk1 xdv.ok) [0,1,2,6] [] [] (q4 (xI0 0 0 0) qI (xIt 143 xIR) qI) (q1 (qB 0 2 148 xIT)) (fun (c,n,_,a,_) (b,_)=>(xbf c n,(a,b),fun p=>(.leaf (.exit 2) [] [bF 0 2 148 p]))) [] fun (c,n,_,_,_) _ (a,b)=>(((c,n,(),a,()),(b,())),xct c n a b none)
def xfJ (n:Nat) (k:Int) (a:LA):=(Iter (xb3 n k 20) (0,20,a)).getD (0,[])
def xfI (n:Nat) (k:Int) (a:LA):=xbD n (xfJ n k a).fst k (xfJ n k a).snd
def xfH (n:Nat) (k:Int) (a:LA):=Iter (xbf n k) (20,(xfI n k a).getD [])
def xf4 {T:Type} (n:Nat) (k:Int) (a:LA) (δ:T) (κ:LA->T):T:=br ((Iter (xb3 n k 20) (0,20,a)).isSome) (br ((xfI n k a).isSome) (br ((xfH n k a).isSome) (κ ((xfH n k a).getD [])) δ) δ) δ
def xeT (n:Nat) (k:Int) (a:LA):=xf4 n k a none some
def xF5:EO:=xpd.fM Tryz.func171 63 1 [148] [(2,xdr.lp),(9,xdv.lp),(7,xhC.lp)] (lks (lkC xdr.ok (lkC xhC.ok (lkC xdv.ok lkN)))) (u3 (sEq (xI0 0 0 0)) uI (sEq (xIt (143:FuncId) xIR))) (q1 (qB 0 2 148 xIT)) (fun (n,k,_,_) (a,_) _=>xf4 n k a) (fun _ _ p=>(AV.tuple [],([bF 0 2 148 p]:List Box))) []
def xfF {T:Type} (n:Nat) (a:LA) (δ:T) (κ:LA->T):T:=br ((xeT n (↑n:Int) a).isSome) (κ ((xeT n (↑n:Int) a).getD [])) δ
def xgh (n:Nat) (a:LA):=xfF n a none some
def xCS:EO:=xF5.fM Tryz.func142 9 1 [148] [] lk0 (u2 (sEq (xI0 0 0 0)) (sEq (xIt (143:FuncId) xIR))) (q1 (qB 0 2 148 xIT)) (fun (n,_,_) (a,_) _=>xfF n a) (fun _ _ p=>(AV.tuple [],([bF 0 2 148 p]:List Box))) []
def xed (b:LA) (c:Int) (a:LA):=a++[AV.agg [AV.list 3 (gC b c 0).toList,AV.list 2 []]]
def xbZ (a:Nat):Nat:=0+(↑a:Int).toNat
def xcC (a:LA) (b:Int):=(xiZ (gC a b 0).toList).getD []
def xf6 (d:LA) (f:Int) (b:Nat) (e:Int) (c a:LA):=decide (xbZ b<(xed d e a).length)
def xbn (c:LA) (b:Nat) (d:Int) (a:LA):=((xed c d a).getD (xbZ b) .top).cells
def xfA (a:LA) (b:Int):=decide ((xcC a b).length<=4611686018427387904)
def xee (b:LA) (c:Int) (a:LA):=(xIo (AV.int .i64 0) a (xcC b c)).toInt
def xf7 (c:LA) (b:Nat) (d:Int) (a:LA):=decide (0<=xee c d a)&&decide (xee c d a<(↑b:Int))
def xa4 (c:LA) (b:Nat) (d:Int) (a:LA):=((xbn c b d a).getD 1 .top).toList.length
def xaZ (b:LA) (c:Int) (a:LA):Nat:=0+(xee b c a).toNat
def xfz (a:LA) (d:Nat) (b:Int) (c:LA):=((xbn a d b c).getD 1 .top).toList++[AV.agg [AV.int .i64 (gC a b 1).toInt,AV.int .i64 (gC a b 2).toInt]]
def xeC (c:LA) (b:Nat) (d:Int) (a:LA):=(xed c d a).set (xbZ b) (AV.agg (List.take 1 (xbn c b d a)++[AV.int .i64 (↑(xa4 c b d a):Int)]++List.drop 2 (xbn c b d a)))
def xf8 (c:LA) (d:Int) (a b:LA):=decide (xaZ c d a<b.length)
def xa5 (c:LA) (d:Int) (a b:LA):=((b.getD (xaZ c d a) .top).cells.getD 1 .top).toList.length
def xfy (b:LA) (c:Int) (a d:LA):=((d.getD (xaZ b c a) .top).cells.getD 1 .top).toList++[AV.agg [AV.int .i64 (gC b c 1).toInt,AV.int .i64 (gC b c 2).toInt]]
def xdE (c:LA) (a:Nat) (d:Int) (b:LA):=((xeC c a d b).getD (xbZ a) .top).cells
def xeD (c:LA) (d:Int) (a b:LA):=b.set (xaZ c d a) (AV.agg (List.take 1 (b.getD (xaZ c d a) .top).cells++[AV.int .i64 (↑(xa5 c d a b):Int)]++List.drop 2 (b.getD (xaZ c d a) .top).cells))
def xdF (c:LA) (d:Int) (a b:LA):=((xeD c d a b).getD (xaZ c d a) .top).cells
def xdR {T:Type} (e:LA) (f:Int) (d:Nat) (c:Int) (b a:LA) (δ:T) (κl:(Nat×Int×LA×LA)->T) (κr:(Nat×LA)->T):T:=br (decide (c<f)) (br (ixI e c) (br (ixT e c 3 [Sh.list 3,Sh.int .i64,Sh.int .i64] 0) (br (!xf0 (gC e c 1).toInt (gC e c 2).toInt) (κl (d,i64.wrap (c+1),b,a)) (br ((xiZ (gC e c 0).toList).isSome) (br (xfA e c&&xH4 (Sh.int .i64) (xIo (AV.int .i64 0) b (xcC e c))) (br (!xIB b (xcC e c)) (br (decide (b.length<4611686018427387904)&&xfA e c) (br (rmB d a 1 48) (br (decide ((↑d:Int)<(↑(d+1):Int))) (br (xf6 e f d c b a&&(xIM 2 ((xbn e d c a).getD 1 .top)&&(xbn e d c a).length==2)) (br (xf6 e f d c b a&&(xIM 2 ((xbn e d c a).getD 1 .top)&&((xbn e d c a).length==2&&(2*xa4 e d c a==2*xa4 e d c a&&(xa4 e d c a==xa4 e d c a&&(xa4 e d c a==xa4 e d c a&&(decide ((xa4 e d c a+1)*16<=140737488355328)&&decide (xa4 e d c a+1<=4611686018427387904)))))))) (br (decide ((↑d:Int)<(↑(d+1):Int))) (br (decide (xbZ d<(xeC e d c a).length)&&((xdE e d c a).length==2&&(xa4 e d c a+1==(xfz e d c a).length&&xI8 ((xdE e d c a).getD 1 .top) (xa4 e d c a+1)))) (κl (d+1,i64.wrap (c+1),xIm b (xcC e c) (AV.int .i64 (↑d:Int)),(xeC e d c a).set (xbZ d) (AV.agg (List.take 1 (xdE e d c a)++[AV.list 2 (xfz e d c a)]++List.drop 2 (xdE e d c a))))) δ) δ) δ) δ) δ) δ) δ) (br (xf7 e d c b) (br (xf8 e c b a&&(xIM 2 ((a.getD (xaZ e c b) .top).cells.getD 1 .top)&&(a.getD (xaZ e c b) .top).cells.length==2)) (br (xf8 e c b a&&(xIM 2 ((a.getD (xaZ e c b) .top).cells.getD 1 .top)&&((a.getD (xaZ e c b) .top).cells.length==2&&(2*xa5 e c b a==2*xa5 e c b a&&(xa5 e c b a==xa5 e c b a&&(xa5 e c b a==xa5 e c b a&&(decide ((xa5 e c b a+1)*16<=140737488355328)&&decide (xa5 e c b a+1<=4611686018427387904)))))))) (br (xf7 e d c b) (br (decide (xaZ e c b<(xeD e c b a).length)&&((xdF e c b a).length==2&&(xa5 e c b a+1==(xfy e c b a).length&&xI8 ((xdF e c b a).getD 1 .top) (xa5 e c b a+1)))) (κl (d,i64.wrap (c+1),b,(xeD e c b a).set (xaZ e c b) (AV.agg (List.take 1 (xdF e c b a)++[AV.list 2 (xfy e c b a)]++List.drop 2 (xdF e c b a))))) δ) δ) δ) δ) δ)) δ) δ)) δ) δ) (κr (d,a))
def xbR (d:LA) (e:Int):StT (Nat×Int×LA×LA) (Nat×LA):=fun (c,f,a,b)=>xdR d e c f a b none inL inR
def xlU:=xCS.l 60 0 [] [] Tryz.f126 0 lk0 [3,4,11,12,13] [4] [(4,2,223474614420)] (q5 (xI1 0 0 0 0) (xI0 1 0 0) (qL 3) qI qI) (q2 (qB 0 2 1208925819615333616451584 xIT) (qB 0 2 223474614420 xIT)) (fun (_,c,d,e,f,_) (a,b,_)=>(xbR d e,(c,f,a,b),fun p=>(.leaf (.exit 0) [AV.osl 0 0 0 p.1] [bF 0 2 223474614420 p.2]))) (0,[]) fun (_,_,d,e,_,_) _ (c,f,a,b)=>((((),c,d,e,f,()),(a,b,())),xdR d e c f a b none)
def xkt (l:LA):=Iter (xbR l (↑l.length:Int)) (0,0,[],[])
def xeH (l:LA):=(xkt l).getD (0,[])
def xhU (l:LA):=xgh ((xeH l).fst) ((xeH l).snd)
def xlc {T:Type} (l:LA) (δ:T) (κ:LA->T):T:=br ((xkt l).isSome) (br (xIC 2 1 ((xeH l).snd)) (br ((xhU l).isSome) (br (decide (0+((xeH l).fst)<=((xhU l).getD []).length)&&true) (κ (List.take ((xeH l).fst) (List.drop 0 ((xhU l).getD [])))) δ) δ) δ) δ
def xer (l:LA):=xlc l none some
def xCT:EO:=xCS.f Tryz.func126 60 0 [] [(4,xlU.lp)] (lk1 xlU.ok) (u1 (uL 3)) (fun (l,_) _=>xlc l) (fun _ p=>AV.list 2 p) []
end Go.Sim.M
end
