/- Part 10 of the proof of the law. -/
import Derived.Test.YtcekkkdjdfiipaaGreatDoorUP9
import Derived.WalkKit
import Derived.BigCall
import Derived.Lib.Strings
import Derived.Lib.Slices
import Derived.Lib.Walk
import Derived.Lib.Builder
import Derived.Lib.UnsafeStr
import Derived.Laws.Externs
import Derived.Laws.IdiomCopy
import Derived.Laws.BitsLemmas
import Derived.RegionTactic
set_option linter.unusedVariables false
set_option linter.unusedSimpArgs false
set_option linter.unnecessarySimpa false
noncomputable section
namespace Go.Proofs
open Go.RowKit Go.Lib
theorem Tryz.lies_builder (n:Nat) (hn:1<=n):liesAt Tryz.prog Tryz.prog.depth 99 n 0 99 1=true:=by
 have hc:Tryz.prog.cellsOf 99=2:=by kernel_rfl
 have hd:Tryz.prog.depth=(2*(Tryz.prog.types.size+Made.depth)+1)+1:=rfl;generalize Tryz.prog=P at *;rw [hd];simp only [liesAt,Bool.or_eq_true];left;rw [hd];simp [rowAt,hc,hn,sameLayout]
set_option maxHeartbeats 2000000 in
set_option maxRecDepth 100000 in
theorem Tryz.copyCheck_used (b:Nat) (w:World) (h0:w.cell? ⟨b,0,none⟩=some (.pointer (some ⟨b,0,none⟩))) :
  Calls Tryz.prog 88 #[.pointer (some ⟨b,0,none⟩)] w fun e w'=>e=.returned (.tuple #[])/\w'=w:=by
 have hsz:(Tryz.prog.info? 99).map (·.size)=some 2:=by kernel_rfl
 obtain ⟨j,hj,_⟩:=Option.map_eq_some_iff.1 hsz;have tp:Tryz.prog.underlying 96=some (.pointer 99):=by kernel_rfl
 go_enter Tryz.func88,Tryz.ntmps88
 go_wp2
 rw [Lib.run_neq_ptr_same w _ tp hj]
 go_wp2
 go_end0
 exact ⟨rfl,rfl⟩
set_option maxHeartbeats 2000000 in
set_option maxRecDepth 100000 in
theorem Tryz.copyCheck_fresh (b n:Nat) (hn:1<=n) (w:World) (h0:w.cell? ⟨b,0,none⟩=some (.pointer none)) (J:w.shape? b=some (99,n*2)) (Q:w.frozen? ⟨b,0,none⟩=false) :
  Calls Tryz.prog 88 #[.pointer (some ⟨b,0,none⟩)] w fun e w'=>e=.returned (.tuple #[])/\w'=w.setCell ⟨b,0,none⟩ (.pointer (some ⟨b,0,none⟩)):=by
 have hsz:(Tryz.prog.info? 99).map (·.size)=some 2:=by kernel_rfl
 obtain ⟨j,hj,O⟩:=Option.map_eq_some_iff.1 hsz;have hc:Tryz.prog.cellsOf 99=2:=by kernel_rfl
 have tp:Tryz.prog.underlying 96=some (.pointer 99):=by kernel_rfl
 have tu:Tryz.prog.underlying 165=some .unsafePointer:=by kernel_rfl
 have q:liesAt Tryz.prog Tryz.prog.depth 99 (n*2 / Tryz.prog.cellsOf 99) 0 99 1=true:=by
  rw [hc,Nat.mul_div_cancel _ (by decide)];exact Tryz.lies_builder n hn
 have c1:=Lib.run_to_unsafe w ⟨b,0,none⟩ tp tu hj (by rw [O];decide) J (show 0<n*2 by omega)
 have c2:=Lib.run_from_unsafe w ⟨b,0,none⟩ tu tp hj J q;clear q
 go_enter Tryz.func88,Tryz.ntmps88
 go_wp2
 rw [run_callFunc_extern Tryz.func117 (by kernel_rfl) (by kernel_rfl) (by kernel_rfl) (e:=Extern.AbiNoEscape.same) (by kernel_rfl)]
 rw [Lib.run_noEscape];simp only [Result.andThen];rw [Oper.upon_value]
 go_wp2
 go_end0
 exact ⟨rfl,rfl⟩
set_option maxHeartbeats 2000000 in
set_option maxRecDepth 100000 in
theorem Tryz.builder_string (b g cap:Nat) (l:List UInt8) (cur:Array Value) (w:World) (hb:w.cell? ⟨b,1,none⟩=some (.slice (some ⟨g,0,none⟩) l.length cap))
  (hg:w.heap[g]?=some (.cells cur 5 (0,0))) (q:∀ j x,l[j]?=some x->w.cell? ((⟨g,0,none⟩:Addr).add j)=some (.int .u8 x.toNat)) (U:l.length<=cur.size) (hcap:cap≠0) (h0:l≠[]) (J:l.length<=9223372036854775807) :
  Calls Tryz.prog 61 #[.pointer (some ⟨b,0,none⟩)] w fun e w'=>e=.returned (.string ⟨l.toArray⟩)/\w'=w.drew.freeze ⟨g,0,none⟩ l.length:=by
 have c1:w.drew.cell? ⟨b,1,none⟩=some (.slice (some ⟨g,0,none⟩) l.length cap):=hb;have O:Tryz.prog.underlying 133=some (.pointer 5):=by kernel_rfl
 have Q:Tryz.prog.cellsOf 5=1:=by kernel_rfl
 have W:(Builtin.unsafeSliceData_ #[97] 133 #[.slice (some ⟨g,0,none⟩) l.length cap]).run Tryz.prog w.drew=.ok (.pointer (some ⟨g,0,none⟩)) w.drew :=
  Lib.run_unsafeSliceData_row _ _ _ _ _ _ hcap
 have Y:(Builtin.unsafeString_ #[133,3] 9 #[.pointer (some ⟨g,0,none⟩),.int .i64 l.length]).run Tryz.prog w.drew=.ok (.string ⟨l.toArray⟩) (w.drew.freeze ⟨g,0,none⟩ l.length) :=
  Lib.run_unsafeString_row w.drew 133 3 9 5 O Q g cur.size (by have hg':w.drew.heap[g]?=some (.cells cur 5 (0,0)):=hg;simp [World.shape?,hg']) l h0 U J q
 clear q
 go_enter Tryz.func61,Tryz.ntmps61
 go_wp2
 go_region
 all_goals (go_wp2;go_ret;exact ⟨rfl,rfl⟩)
set_option maxHeartbeats 2000000 in
set_option maxRecDepth 100000 in
theorem Tryz.builder_string_nil (b:Nat) (w:World) (hb:w.cell? ⟨b,1,none⟩=some (.slice none 0 0)) :
  Calls Tryz.prog 61 #[.pointer (some ⟨b,0,none⟩)] w fun e w'=>e=.returned (.string ⟨#[]⟩)/\w'=w.drew:=by
 have c1:w.drew.cell? ⟨b,1,none⟩=some (.slice none 0 0):=hb;have q:(Builtin.unsafeSliceData_ #[97] 133 #[.slice none 0 0]).run Tryz.prog w.drew=.ok (.pointer none) w.drew:=rfl;have J:=Lib.run_unsafeString_none (P:=Tryz.prog) w.drew 133 3 9 none
 go_enter Tryz.func61,Tryz.ntmps61
 go_wp2
 go_region
 all_goals (go_wp2;go_ret;exact ⟨rfl,rfl⟩)
end Go.Proofs
end
noncomputable section
namespace Go.Sim
open Go.RowKit Go.Proofs
def M.isByte:AV->Bool
 | .int .u8 n=>decide (0<=n)&&decide (n<256)
 | _=>false
def M.isBytes (xs:List AV):Bool:=xs.all M.isByte
def M.strOf (xs:List AV):List UInt8:=xs.map fun x=>UInt8.ofNat x.toInt.toNat
theorem xwp (s:List UInt8):M.strOf (M.byteAVs s)=s:=by
 unfold M.strOf M.byteAVs;rw [List.map_map]
 conv=>rhs;rw [<-List.map_id s]
 exact List.map_congr_left fun u _=>by simp [AV.toInt]
theorem xtJ (s:List UInt8):M.isBytes (M.byteAVs s)=true:=by
 unfold M.isBytes M.byteAVs;rw [zH];intro x hx;obtain ⟨u,_,rfl⟩:=zJ.1 hx;have:=u.toNat_lt;simp only [M.isByte,ze,zk];omega
theorem xp0 (s t:List UInt8):M.byteAVs (s++t)=M.byteAVs s++M.byteAVs t:=by simp [M.byteAVs]
theorem xiM (s:List UInt8):(M.byteAVs s).length=s.length:=by simp [M.byteAVs]
theorem xAJ {x:AV} (h:M.isByte x=true):∃ u:UInt8,x=.int .u8 u.toNat:=by
 unfold M.isByte at h;split at h
 . rename_i n;simp only [ze,zk] at h;refine ⟨UInt8.ofNat n.toNat,?_⟩;have:(UInt8.ofNat n.toNat).toNat=n.toNat:=by rw [UInt8.toNat_ofNat',Nat.mod_eq_of_lt (by omega)]
   rw [this];congr 1;omega
 . simp at h
theorem xw5 (w:World) (g n k:Nat) (h:k≠g):(w.freeze ⟨g,0,none⟩ n).heap[k]?=w.heap[k]?:=by
 unfold World.freeze;split
 . rfl
 . simp [Array.getElem?_modify,Ne.symm h]
theorem xzf (w:World) (g n:Nat):(w.freeze ⟨g,0,none⟩ n).heap.size=w.heap.size:=by
 unfold World.freeze;split
 . rfl
 . simp
theorem xB1 {w w':World} {A:Nat->Prop} {M:Id->Option MB} {B:Nat} {H:List Box} (hR:HR w A M B H) {id:Nat} {m:MB} {bx:Box} (J:0<m.cap) (hm:M (.b id)=some m) (hb:H[id]?=some bx) (ab:isC bx.ty=false) (aa:bx.frz=false) (U:BoxAt w A M B (.b id) m bx) (v:Nat) (hv:m.ver<v) (sz:Nat) (ty:TypeId) (Q:isC ty=false)
  (hs:w'.heap.size=w.heap.size) (hw:∀ b,b≠m.b->w'.heap[b]?=w.heap[b]?) :
  HR w' A (MSet M (.b id) ⟨m.b,v,sz,0,ty⟩) B (H.set id ⟨v,sz,ty,[],false,true⟩)/\Mv w A M w' A (MSet M (.b id) ⟨m.b,v,sz,0,ty⟩):=by
 have Z:A m.b:=(U.guard J).1 aa;have O:MExt M (MSet M (.b id) ⟨m.b,v,sz,0,ty⟩):=xob hm (.inr hv);have hw':∀ b,b<w.heap.size->¬ A b->w'.heap[b]?=w.heap[b]?:=fun b _ hA=>hw b fun e=>hA (e▸Z)
 have hc:∀ {p:Prop},0<(0:Nat)->p:=fun h=>absurd h (by omega)
 have q:∀ i m1,MSet M (.b id) ⟨m.b,v,sz,0,ty⟩ i=some m1->0<m1.cap->i≠.b id/\M i=some m1:=fun i m1 h1 h0=>by
  by_cases hi:i=.b id
  . subst hi;simp [MSet] at h1;subst h1;exact absurd h0 (by simp)
  . exact ⟨hi,by simpa [MSet,hi] using h1⟩
 refine ⟨⟨fun i m1 h1=>?_,fun i i' m1 m2 h1 h2 c1 c2 he=>hR.inj i i' m1 m2 (q i m1 h1 c1).2 (q i' m2 h2 c2).2 c1 c2 he,fun b hb=>by rw [hs];exact hR.lt b hb⟩,⟨by omega,hw',fun _ _ h=>h,fun _ _ h _=>h,O,⟨fun b _ hb=>hw b fun e=>hb (.b id) m hm J e.symm,fun i m1 h1 h0=>.inl ⟨i,m1,(q i m1 h1 h0).2,h0,rfl⟩⟩⟩⟩
 by_cases hi:i=.b id
 . subst hi;have:m1=⟨m.b,v,sz,0,ty⟩:=by simp [MSet] at h1;exact h1.symm
   subst this;exact ⟨⟨v,sz,ty,[],false,true⟩,by rw [xa4,zK (xcf hb)],rfl,rfl,xaR Q,zP _,zP _,fun x hx=>by simp at hx,hc,hc,hc,hc⟩
 . have W:M i=some m1:=by simpa [MSet,hi] using h1
   obtain ⟨Y,g1,g2⟩:=hR.box i m1 W;exact ⟨Y,by rw [xcJ hb ab Q hi];exact g1,g2.mono (fun h0=>hw _ fun e=>hi (hR.inj i (.b id) m1 m W hm h0 J e)) hw' (by omega) (fun _ _ h=>h) g2.guard O⟩
theorem xmr {w:World} {A:Nat->Prop} {M:Id->Option MB} {B:Nat} {H:List Box} (hR:HR w A M B H) {v:Value} {a x:AV} {ty:TypeId} {frz pm:Bool} (J:isC ty=false) (hv:Rel w A M v (.own (.b 0) 0 0 0)) (hb:H[0]?=some ⟨0,2,ty,[.agg [a,x]],frz,pm⟩) :
  ∃ m c,M (.b 0)=some m/\BoxAt w A M B (.b 0) m ⟨0,2,ty,[.agg [a,x]],frz,pm⟩/\1<=m.cap/\v=.pointer (some ⟨m.b,0,none⟩)/\w.heap[m.b]?=some (.cells c ty (0,0))/\c.size=m.cap*2/\m.sz=2 /\
   Rel w A (MP M pm) (c.getD 0 undef) a/\Rel w A (MP M pm) (c.getD 1 undef) x/\w.cell? ⟨m.b,0,none⟩=some (c.getD 0 undef)/\w.cell? ⟨m.b,1,none⟩=some (c.getD 1 undef):=by
 obtain ⟨m,hm,q,hp⟩:=xk2 hR hv (xkT hb J);have hcap:1<=m.cap:=q.fits;have hsz:m.sz=2:=q.sz.symm;obtain ⟨c,h1,h2,h3⟩:=q.plainCells J (by omega)
 rw [hsz] at h2;have r0:=h3 0 0 (by simp) (by omega)
 have r1:=h3 0 1 (by simp) (by omega)
 have h1:w.heap[m.b]?=some (.cells c ty (0,0)):=h1;have e0:w.cell? ⟨m.b,0,none⟩=some (c.getD 0 undef):=by
  have:0<c.size:=by omega
  simp [World.cell?,h1,this]
 have e1:w.cell? ⟨m.b,1,none⟩=some (c.getD 1 undef):=by
  have:1<c.size:=by omega
  simp [World.cell?,h1,this]
 refine ⟨m,c,hm,q,hcap,by simpa using hp,h1,h2,hsz,by simpa [AV.cells] using r0,by simpa [AV.cells] using r1,e0,e1⟩
def xpy:List AV->List Box->Option (Bool×AV×List Box)
 | [.own (.b 0) 0 0 0],⟨0,2,ty,[.agg [.nilptr,x]],false,pm⟩::r=>match Nat.beq ty 99 with
  | true=>some (true,.tuple [],⟨0,2,ty,[.agg [.own (.b 0) 0 0 0,x]],false,false⟩::r)
  | false=>none
 | [.own (.b 0) 0 0 0],⟨0,2,ty,[.agg [.own (.b 0) 0 0 0,x]],false,pm⟩::r=>match Nat.beq ty 99 with
  | true=>some (true,.tuple [],⟨0,2,ty,[.agg [.own (.b 0) 0 0 0,x]],false,pm⟩::r)
  | false=>none
 | _,_=>none
theorem xzc:OmOk Tryz.prog xJt 88 xpy:=fun xs H r H' h=>by
 unfold xpy at h;split at h
 . rename_i ty x pm rest;split at h
   case h_2=>simp at h
   rename_i J;have J:=zf J;subst J;simp only [z1,za,true_and] at h;obtain ⟨rfl,rfl⟩:=h;refine ⟨xdO Tryz.func88 rfl (by kernel_rfl),fun w0 w A M vs hI hB hR O=>?_⟩
   obtain ⟨v,rfl,hv⟩:=rc1 O;obtain ⟨m,c,hm,q,hcap,rfl,hh,Q,hsz,r0,r1,e0,e1⟩:=xmr hR (by rfl) hv rfl
   have hn:c.getD 0 undef=.pointer none:=by
    revert r0;generalize c.getD 0 undef=z;intro r0;cases r0;rfl
   rw [hn] at e0;refine (Tryz.copyCheck_fresh m.b m.cap hcap w e0 (by simp [World.shape?,hh,Q]) (Lib.frozen_of_heap hh 0)).mono ?_
   rintro e w' ⟨rfl,rfl⟩;rw [setCell_eq_setRow w m.b 0 c _ _ _ hh];have ab:x.one=true:=by
    have:=q.ok (.agg [.nilptr,x]) (by simp)
    simp only [AV.okElem,AV.cells,List.all_cons,ze] at this;exact this.2.2.1
   have W:(0:Nat)=m.ver:=q.ver;obtain ⟨g1,g2,g3,g4,gt,g5⟩:=xlr (m':=m) (bx':=⟨0,2,99,[.agg [.own (.b 0) 0 0 0,x]],false,false⟩) hR (by omega) hm rfl q rfl rfl rfl (c':=c.setIfInBounds 0 (.pointer (some ⟨m.b,0,none⟩))) rfl rfl rfl rfl (.inl rfl)
    W (by rw [hsz]) (by have:=q.ty;rw [xaR rfl] at this;exact this) rfl hcap (fun y hy=>by
     simp only [zu] at hy;subst hy;rw [hsz];simp [AV.okElem,AV.cells,ab,show (AV.own (.b 0) 0 0 0).one=true from rfl]) (by rw [hsz];simpa using Q) (fun i j hi hj=>by
     have aa:i=0:=by simpa using hi
     subst aa;rw [hsz] at hj |-;have Z:0<c.size:=by omega
     have ac:1<c.size:=by omega
     match j,hj with
     | 0,_ =>
      have:(c.setIfInBounds 0 (.pointer (some ⟨m.b,0,none⟩))).getD (0*2+0) undef=.pointer (some ⟨m.b,0,none⟩):=by simp [Z]
      rw [this];exact .own _ (.b 0) 0 0 0 m hm (by omega) rfl (fun _=>by rw [xjF (q.nomap rfl)];simp)
     | 1,_ =>
      have:(c.setIfInBounds 0 (.pointer (some ⟨m.b,0,none⟩))).getD (0*2+1) undef=c.getD 1 undef:=by simp [Array.getElem?_setIfInBounds]
      rw [this];exact r1.unmp)
   exact ⟨_,A,_,rfl,hB.trans g4,fun _ _=>Iff.rfl,Ev.refl.step ⟨by simp [World.setRow],g3,fun _ _ h=>h,fun _ _ h _=>h,g2,gt⟩,by simpa using g1,.tuple #[] [] rfl (by simp)⟩
 . rename_i ty x pm rest;split at h
   case h_2=>simp at h
   rename_i J;have J:=zf J;subst J;simp only [z1,za,true_and] at h;obtain ⟨rfl,rfl⟩:=h;refine ⟨xdO Tryz.func88 rfl (by kernel_rfl),fun w0 w A M vs hI hB hR O=>?_⟩
   obtain ⟨v,rfl,hv⟩:=rc1 O;obtain ⟨m,c,hm,q,hcap,rfl,hh,Q,hsz,r0,r1,e0,e1⟩:=xmr hR (by rfl) hv rfl
   obtain ⟨m',U,Y,hp⟩:=xk2 hR r0.unmp (xkT (n:=0) (bx:=⟨0,2,99,[.agg [.own (.b 0) 0 0 0,x]],false,pm⟩) rfl rfl);rw [hm] at U;obtain rfl:=(z1 _ _).mp U;rw [hp] at e0;refine (Tryz.copyCheck_used m.b w (by simpa using e0)).mono ?_
   rintro e w' ⟨rfl,rfl⟩;exact ⟨_,A,M,rfl,hB,fun _ _=>Iff.rfl,Ev.refl,hR,.tuple #[] [] rfl (by simp)⟩
 . simp at h
def xjZ:List AV->List Box->Option (Bool×AV×List Box)
 | [.own (.b 0) 0 0 0],[⟨0,2,ty,[.agg [a,.osl (.b 1) u 0 n]],false,pm⟩,⟨u',1,ty',bs,false,pm'⟩]=>match Nat.beq ty 99&&(Nat.beq ty' 5&&Nat.beq u u') with
  | true=>some ((decide (n=bs.length)&&M.isBytes bs)&&decide (bs.length≠0),.str (M.strOf bs),[⟨0,2,ty,[.agg [a,.osl (.b 1) u 0 n]],false,pm⟩,⟨u+1,1,ty',[],false,true⟩])
  | false=>none
 | [.own (.b 0) 0 0 0],⟨0,2,ty,[.agg [a,.nils]],false,pm⟩::r=>match Nat.beq ty 99 with
  | true=>some (true,.str [],⟨0,2,ty,[.agg [a,.nils]],false,pm⟩::r)
  | false=>none
 | _,_=>none
theorem xsW:OmOk Tryz.prog xJt 61 xjZ:=fun xs H r H' h=>by
 unfold xjZ at h;split at h
 . rename_i ty a u n pm u' al bs ac;split at h
   case h_2=>simp at h
   rename_i O;simp only [ze] at O;obtain ⟨h1,h2,h3⟩:=O;have h1:=zf h1;have h2:=zf h2;have h3:=zf h3;subst h1 h2 h3;simp only [z1,za,ze,zk] at h;obtain ⟨⟨⟨rfl,ah⟩,hne⟩,rfl,rfl⟩:=h;refine ⟨xdO Tryz.func61 rfl (by kernel_rfl),fun w0 w A MM vs hI hB hR W=>?_⟩
   obtain ⟨v,rfl,hv⟩:=rc1 W;obtain ⟨m,c,hm,aa,hcap,rfl,hh,ag,hsz,r0,r1,e0,e1⟩:=xmr hR (by rfl) hv rfl
   obtain ⟨m1,a1,af,q,ak,ae,ai⟩:=xhu hR r1.unmp (xkT (n:=1) (bx:=⟨u,1,5,bs,false,ac⟩) rfl rfl);have J:0<m1.cap:=by have:=q.fits;simp only at this;omega
   have ha:=ai J;subst ha;obtain ⟨c1,k1,k2,k3⟩:=q.plainCells rfl J;have Q:m1.sz=1:=q.sz.symm;have aj:5=m1.ty:=by have:=q.ty;rw [xaR rfl] at this;exact this
   rw [ae] at e1;simp only [Nat.zero_mul,Nat.sub_zero] at e1;have hl:(M.strOf bs).length=bs.length:=by simp [M.strOf]
   have U:∀ j,j<bs.length->∃ uu:UInt8,bs.getD j .top=.int .u8 uu.toNat/\(M.strOf bs)[j]?=some uu/\w.cell? ⟨m1.b,j,none⟩=some (.int .u8 uu.toNat):=fun j hj=>by
    have ad:bs.getD j .top∈bs:=xat hj;obtain ⟨uu,hu⟩:=xAJ (zH.1 ah _ ad);refine ⟨uu,hu,?_,?_⟩
    . have:bs[j]?=some (bs.getD j .top):=xp2 hj;simp only [M.strOf,List.getElem?_map,this,hu,Option.map_some,AV.toInt,zM,UInt8.ofNat_toNat]
    . have hr:=k3 j 0 hj (by omega)
      rw [Q,hu] at hr;simp only [Nat.mul_one,Nat.add_zero,AV.cells,List.getD_cons_zero] at hr;have:=hr.int_inv;have Z:j<c1.size:=by have:=q.fits;simp only at this;rw [k2,Q];omega
      simp only [World.cell?,k1];have e2:c1.getD j undef=c1[j]:=by simp [Z]
      rw [e2] at this;simp [Z,this]
   refine (Tryz.builder_string m.b m1.b m1.cap (M.strOf bs) c1 w (by rw [hl];exact e1) k1 (fun j x hx=>by
    have hj:j<bs.length:=by
     rcases zI j bs.length with h'|h'
     . exact h'
     . rw [zy (by omega)] at hx;simp at hx
    obtain ⟨uu,g1,g2,g3⟩:=U j hj;rw [g2] at hx;obtain rfl:=(z1 _ _).mp hx;by_cases ab:j=0
    . subst ab;simpa [Addr.add] using g3
    . simpa [Addr.add,ab] using g3) (by rw [hl,k2,Q];have:=q.fits;simp only at this;omega) (by omega) (fun e=>hne (by rw [<-hl,e];rfl)) (by rw [hl];have h1:=q.fits;have h2:=q.capm;simp only at h1;unfold maxLen at h2;omega)).mono ?_
   rintro e w' ⟨rfl,rfl⟩;rw [hl];have Y:=q.low J;obtain ⟨g1,g2⟩:=xB1 hR J af rfl rfl rfl q (u+1) (by have:=q.ver;simp only at this;omega) 1 5 rfl (w':=w.drew.freeze ⟨m1.b,0,none⟩ bs.length) (by rw [xzf];rfl) (fun b hb=>by rw [xw5 _ _ _ _ hb];rfl)
   exact ⟨_,A,_,rfl,Lib.below_freeze (hB.drew) (p:=⟨m1.b,0,none⟩) Y _,fun _ _=>Iff.rfl,Ev.refl.step g2,by simpa using g1,.str _⟩
 . rename_i ty a pm rest am;split at h
   case h_2=>simp at h
   rename_i O;have O:=zf O;subst O;simp only [z1,za,true_and] at h;obtain ⟨rfl,rfl⟩:=h;refine ⟨xdO Tryz.func61 rfl (by kernel_rfl),fun w0 w A MM vs hI hB hR W=>?_⟩
   obtain ⟨v,rfl,hv⟩:=rc1 W;obtain ⟨m,c,hm,aa,hcap,rfl,hh,ag,hsz,r0,r1,e0,e1⟩:=xmr hR (by rfl) hv rfl
   have hn:c.getD 1 undef=.slice none 0 0:=by
    revert r1;generalize c.getD 1 undef=z;intro r1;cases r1;rfl
   rw [hn] at e1;refine (Tryz.builder_string_nil m.b w e1).mono ?_;rintro e w' ⟨rfl,rfl⟩;exact ⟨_,A,MM,rfl,hB.drew,fun _ _=>Iff.rfl,Ev.refl.step ⟨zb _,fun _ _ _=>rfl,fun _ _ h=>h,fun _ _ h _=>h,MExt.refl MM,⟨fun _ _ _=>rfl,fun i m1 h1 h0=>.inl ⟨i,m1,h1,h0,rfl⟩⟩⟩,hR.drew,.str _⟩
 . simp at h
end Go.Sim
end
noncomputable section
namespace Go.Sim
open Go.RowKit
variable {α β γ : Type}
structure Pat (α β:Type) where
 enc:β->α
 dec:α->Option β
 ok:∀ a b,dec a=some b->a=enc b
def xJz:Pat α α:=⟨fun b=>b,some,fun a b h=>by simpa using h⟩
def pInt (k:IntKind):Pat AV Int:=⟨.int k,fun v=>match v with
 | .int k' n=>match decide (k'=k) with
  | true=>some n
  | false=>none
 | _=>none,fun v n h=>by
 split at h
 . split at h
   . rename_i hk;simp only [z1] at h;rw [of_decide_eq_true hk,h]
   . simp at h
 . simp at h⟩
def pStr:Pat AV (List UInt8):=⟨.str,fun v=>match v with
 | .str s=>some s
 | _=>none,fun v n h=>by
 split at h
 . simp only [z1] at h;rw [h]
 . simp at h⟩
def pBool:Pat AV Bool:=⟨.bool,fun v=>match v with
 | .bool s=>some s
 | _=>none,fun v n h=>by
 split at h
 . simp only [z1] at h;rw [h]
 . simp at h⟩
def xJN (sz:Nat) (q:Pat (List AV) β):Pat AV β:=⟨fun b=>.list sz (q.enc b),fun v=>match v with
 | .list z xs=>match Nat.beq z sz with
  | true=>q.dec xs
  | false=>none
 | _=>none,fun v n h=>by
 split at h
 . split at h
   . rename_i hz;rw [zf hz,q.ok _ _ h]
   . simp at h
 . simp at h⟩
def xJH (id ver off:Nat):Pat AV Nat:=⟨.osl id ver off,fun v=>match v with
 | .osl (.b i) e o n=>match Nat.beq i id&&(Nat.beq e ver&&Nat.beq o off) with
  | true=>some n
  | false=>none
 | _=>none,fun v n h=>by
 split at h
 . split at h
   . rename_i hz;simp only [ze] at hz;simp only [z1] at h;rw [zf hz.1,zf hz.2.1,zf hz.2.2,h]
   . simp at h
 . simp at h⟩
def xJI (id ver i j:Nat):Pat AV Unit:=⟨fun _=>.own id ver i j,fun v=>match v with
 | .own (.b a) b c d=>match Nat.beq a id&&(Nat.beq b ver&&(Nat.beq c i&&Nat.beq d j)) with
  | true=>some ()
  | false=>none
 | _=>none,fun v n h=>by
 split at h
 . split at h
   . rename_i hz;simp only [ze] at hz;rw [zf hz.1,zf hz.2.1,zf hz.2.2.1,zf hz.2.2.2]
   . simp at h
 . simp at h⟩
def xJO (sz i j:Nat) (q:Pat (List AV) β):Pat AV β:=⟨fun b=>.eptr sz (q.enc b) i j,fun v=>match v with
 | .eptr a xs c d=>match Nat.beq a sz&&(Nat.beq c i&&Nat.beq d j) with
  | true=>q.dec xs
  | false=>none
 | _=>none,fun v n h=>by
 split at h
 . split at h
   . rename_i hz;simp only [ze] at hz;rw [zf hz.1,zf hz.2.1,zf hz.2.2,q.ok _ _ h]
   . simp at h
 . simp at h⟩
def xJJ (q:Pat (List AV) β):Pat AV β:=⟨fun b=>.agg (q.enc b),fun v=>match v with
 | .agg cs=>q.dec cs
 | _=>none,fun v n h=>by
 split at h
 . rw [q.ok _ _ h]
 . simp at h⟩
def xI9 (f:Nat) (q:Pat (List AV) β):Pat AV β:=⟨fun b=>.func f (q.enc b),fun v=>match v with
 | .func g cs=>match Nat.beq g f with
  | true=>q.dec cs
  | false=>none
 | _=>none,fun v n h=>by
 split at h
 . split at h
   . rename_i hz;rw [zf hz,q.ok _ _ h]
   . simp at h
 . simp at h⟩
def pNils:Pat AV Unit:=⟨fun _=>.nils,fun v=>match v with
 | .nils=>some ()
 | _=>none,fun v n h=>by
 split at h
 . rfl
 . simp at h⟩
def pNilptr:Pat AV Unit:=⟨fun _=>.nilptr,fun v=>match v with
 | .nilptr=>some ()
 | _=>none,fun v n h=>by
 split at h
 . rfl
 . simp at h⟩
def xJw:Pat (List α) Unit:=⟨fun _=>[],fun v=>match v with
 | []=>some ()
 | _=>none,fun v n h=>by
 split at h
 . rfl
 . simp at h⟩
def xJu (p:Pat α β) (q:Pat (List α) γ):Pat (List α) (β×γ):=⟨fun b=>p.enc b.1::q.enc b.2,fun v=>match v with
 | x::t=>match p.dec x with
  | some b=>match q.dec t with
   | some c=>some (b,c)
   | none=>none
  | none=>none
 | _=>none,fun v n h=>by
 split at h
 . split at h
   . rename_i hp;split at h
     . rename_i hq;cases h;rw [p.ok _ _ hp,q.ok _ _ hq]
     . simp at h
   . simp at h
 . simp at h⟩
def xJK (ver sz ty:Nat) (frz pm:Bool) (q:Pat (List AV) β):Pat Box β:=⟨fun b=>⟨ver,sz,ty,q.enc b,frz,pm⟩,fun v=>match v with
 | ⟨a,b,c,xs,f,p⟩=>match Nat.beq a ver&&(Nat.beq b sz&&(Nat.beq c ty&&((f==frz)&&(p==pm)))) with
  | true=>q.dec xs
  | false=>none,fun v n h=>by
 obtain ⟨a,b,c,xs,f,p⟩:=v;dsimp only at h;split at h
 . rename_i hz;simp only [ze,beq_iff_eq] at hz;rw [zf hz.1,zf hz.2.1,zf hz.2.2.1,hz.2.2.2.1,hz.2.2.2.2,q.ok _ _ h]
 . simp at h⟩
def Sub (a b:AV):Prop:=∀ (w:World) (A:Nat->Prop) (M:Id->Option MB) (v:Value),Rel w A M v a->Rel w A M v b
def SubL (aS bs:List AV):Prop:=aS.length=bs.length/\∀ i,i<aS.length->Sub (aS.getD i .top) (bs.getD i .top)
theorem Sub.refl (a:AV):Sub a a:=fun _ _ _ _ h=>h
theorem Sub.of_eq {a b:AV} (h:a=b):Sub a b:=h▸Sub.refl a
theorem xtm (sz:Nat):Sub .nils (.list sz []):=fun w A M v h=>by
 cases h;exact .list0 _ _ _
theorem xFl {aS bs:List AV} (h:SubL aS bs):Sub (.agg aS) (.agg bs):=fun w A M v hr=>by
 obtain ⟨vs,rfl,h1,h2⟩:=hr.agg_inv;exact .agg vs bs (h1.trans h.1) fun i hi=>h.2 i (h.1.symm▸hi) w A M _ (h2 i (h.1.symm▸hi))
theorem xCz {w:World} {A:Nat->Prop} {M:Id->Option MB} {vs:List Value} {aS bs:List AV} (h:SubL aS bs) (hr:RC w A M vs aS):RC w A M vs bs :=
 ⟨hr.1.trans h.1,fun i hi=>h.2 i (h.1.symm▸hi) w A M _ (hr.2 i (h.1.symm▸hi))⟩
structure SPat (β:Type) where
 enc:β->AV
 dec:AV->Option β
 ok:∀ a b,dec a=some b->Sub a (enc b)
structure SPatL (β:Type) where
 enc:β->List AV
 dec:List AV->Option β
 ok:∀ a b,dec a=some b->SubL a (enc b)
def sEq (p:Pat AV β):SPat β:=⟨p.enc,p.dec,fun a b h=>Sub.of_eq (p.ok a b h)⟩
def xJL (sz:Nat) (q:Pat (List AV) β):SPat β:=⟨fun b=>.list sz (q.enc b),fun v=>match v with
 | .nils=>q.dec []
 | .list z xs=>match Nat.beq z sz with
  | true=>q.dec xs
  | false=>none
 | _=>none,fun v n h=>by
 split at h
 . rw [<-q.ok _ _ h];exact xtm sz
 . split at h
   . rename_i hz;rw [zf hz,q.ok _ _ h];exact Sub.refl _
   . simp at h
 . simp at h⟩
def xJM (q:SPatL β):SPat β:=⟨fun b=>.agg (q.enc b),fun v=>match v with
 | .agg cs=>q.dec cs
 | _=>none,fun v n h=>by
 split at h
 . exact xFl (q.ok _ _ h)
 . simp at h⟩
def xJy:SPatL Unit:=⟨fun _=>[],fun v=>match v with
 | []=>some ()
 | _=>none,fun v n h=>by
 split at h
 . exact ⟨rfl,fun i hi=>by simp at hi⟩
 . simp at h⟩
def xJv (p:SPat β) (q:SPatL γ):SPatL (β×γ):=⟨fun b=>p.enc b.1::q.enc b.2,fun v=>match v with
 | x::t=>match p.dec x with
  | some b=>match q.dec t with
   | some c=>some (b,c)
   | none=>none
  | none=>none
 | _=>none,fun v n h=>by
 split at h
 . split at h
   . rename_i hp;split at h
     . rename_i hq;cases h;obtain ⟨h1,h2⟩:=q.ok _ _ hq;refine ⟨by simp [h1],fun i hi=>?_⟩
       cases i with
       | zero=>exact p.ok _ _ hp
       | succ i=>exact h2 i (by simpa using hi)
     . simp at h
   . simp at h
 . simp at h⟩
def ocOf (pv:SPatL β) (g:β->Bool×AV):List AV->Option (Bool×AV):=fun xs=>match pv.dec xs with
 | some b=>some (g b)
 | none=>none
def omOf (pv:SPatL β) (pb:Pat (List Box) γ) (g:β->γ->Bool×AV×List Box):List AV->List Box->Option (Bool×AV×List Box):=fun xs H=>match pv.dec xs with
 | some b=>match pb.dec H with
  | some c=>some (g b c)
  | none=>none
 | none=>none
def lpOf (live liveO:List Nat) (conv:List (Nat×Nat×TypeId)) (pv:Pat (List AV) β) (pb:Pat (List Box) γ) (g:β->γ->Bool×LR):Lp:=⟨live,liveO,conv,fun xs H=>match pv.dec xs with
 | some b=>match pb.dec H with
  | some c=>some (g b c)
  | none=>none
 | none=>none⟩
section
variable {P : Program} {Inv : IV}
theorem xiX {n:FuncId} {pv:SPatL β} {g:β->Bool×AV} (h:∀ b r,g b=(true,r)->Good P Inv n (pv.enc b) r):OcOk P Inv n (ocOf pv g):=fun xs r e=>by
 unfold ocOf at e;split at e
 . rename_i b hb;simp only [z1] at e;obtain ⟨h1,h2⟩:=h b r e;exact ⟨h1,fun w A vs hi ha hr=>h2 w A vs hi ha (xCz (pv.ok _ _ hb) hr)⟩
 . simp at e
theorem xr7 {n:FuncId} {pv:SPatL β} {pb:Pat (List Box) γ} {g:β->γ->Bool×AV×List Box} (h:∀ b c r H',g b c=(true,r,H')->GoodM P Inv n (pv.enc b) (pb.enc c) r H'):OmOk P Inv n (omOf pv pb g):=fun xs H r H' e=>by
 unfold omOf at e;split at e
 . rename_i b hb;split at e
   . rename_i c hc;simp only [z1] at e;rw [pb.ok _ _ hc];obtain ⟨h1,h2⟩:=h b c r H' e;exact ⟨h1,fun w0 w A M vs hi q hR hr=>h2 w0 w A M vs hi q hR (xCz (pv.ok _ _ hb) hr)⟩
   . simp at e
 . simp at e
theorem xyj {nt:Nat} {l:Code} {live liveO:List Nat} {conv:List (Nat×Nat×TypeId)} {pv:Pat (List AV) β} {pb:Pat (List Box) γ} {g:β->γ->Bool×LR}
  (h:∀ b c r,g b c=(true,r)->DoesL P Inv l (fun e1 s1=>e1=r.eval.1/\s1=⟨mkTs nt (liveO.zip r.eval.2.1),r.eval.2.2⟩) ⟨mkTs nt (live.zip (pv.enc b)),pb.enc c⟩):LoopOk P Inv nt l (lpOf live liveO conv pv pb g):=fun vals H r e=>by
 unfold lpOf at e;dsimp only at e;split at e
 . rename_i b hb;split at e
   . rename_i c hc;simp only [z1] at e;rw [pv.ok _ _ hb,pb.ok _ _ hc];exact h b c r e
   . simp at e
 . simp at e
end
theorem xbt {x:Option α} {d:α} (h:x.isSome=true):x=some (x.getD d):=by
 cases x with
 | none=>simp at h
 | some y=>rfl
open Classical in
noncomputable def limN {α:Type} (R:Nat->Option α):Option α:=if h:∃ n,(R n).isSome=true then R (Classical.choose h) else none
theorem xvo {α:Type} {R:Nat->Option α} (h:(limN R).isSome=true):∃ n,limN R=R n:=by
 unfold limN at h |-;split
 . exact ⟨_,rfl⟩
 . rename_i hn;rw [dif_neg hn] at h;simp at h
theorem xsq {α:Type} {R:Nat->Option α} {n:Nat} (h:(R n).isSome=true):(limN R).isSome=true:=by
 unfold limN;rw [dif_pos ⟨n,h⟩];exact Classical.choose_spec (⟨n,h⟩:∃ n,(R n).isSome=true)
theorem xyr {P:Program} {Inv:IV} {f:FuncId} {pv:SPatL β} {g:Nat->β->Bool×AV} {G:β->Bool×AV} (hn:∀ n,OcOk P Inv f (ocOf pv (g n))) (hG:∀ b,(G b).1=true->∃ n,G b=g n b):OcOk P Inv f (ocOf pv G):=fun xs r e=>by
 unfold ocOf at e;split at e
 . rename_i b hb;simp only [z1] at e;obtain ⟨n,q⟩:=hG b (by rw [e])
   refine hn n xs r ?_;unfold ocOf;rw [hb,<-e,q]
 . simp at e
end Go.Sim
end
noncomputable section
namespace Go.Sim.M
open Go.RowKit Go.Proofs
def E0:Env:=(((Env.none.with 148 xjv).with 59 xmj).withM 88 xpy).withM 61 xjZ
theorem xGN:xIN Tryz.prog xJt E0:=(((xAW.with xsg).with xuR).withM xzc).withM xsW
end Go.Sim.M
end
noncomputable section
namespace Go.Sim
open Go.RowKit
def EncS {α:Type} (f:α->AV) (a:Option α) (b:Option AV):Prop:=∀ r,a=some r->∃ x,b=some x/\Sub x (f r)
theorem EncS.none {α:Type} {f:α->AV} {b:Option AV}:EncS f .none b:=fun r h=>by simp at h
theorem EncS.some {α:Type} {f:α->AV} {a:α} {b:AV} (h:Sub b (f a)):EncS f (Option.some a) (Option.some b):=fun r e=>by cases e;exact ⟨b,rfl,h⟩
theorem EncS.br {α:Type} {f:α->AV} {t:Bool} {a a':Option α} {b b':Option AV} (h1:EncS f a b) (h2:EncS f a' b'):EncS f (Sim.br t a a') (Sim.br t b b'):=by cases t<;>assumption
theorem xwq (sz:Nat) (x:AV):Sub (.tuple [.nils,x]) (.tuple [.list sz [],x]):=fun w A M v h=>by
 obtain ⟨vs,rfl,hs,hr⟩:=h.tuple_inv;refine .tuple vs _ hs fun i hi=>?_
 match i,hi with
 | 0,_=>exact xtm sz w A M _ (hr 0 (by simp))
 | 1,_=>exact hr 1 (by simp)
theorem Good.sub {P:Program} {Inv:IV} {f:FuncId} {args:List AV} {r r':AV} (h:Good P Inv f args r) (hs:Sub r r'):Good P Inv f args r' :=
 ⟨h.1,fun w A vs hI hA q=>(h.2 w A vs hI hA q).mono fun e w' ⟨v,he,hb,hr⟩=>⟨v,he,hb,hs w' A xIx v hr⟩⟩
theorem GoodM.bump1 {P:Program} {Inv:IV} {f:FuncId} {args:List AV} {H:List Box} {v v' k sz:Nat} {ty:TypeId} {xs:List AV} {frz pm:Bool} (U:isC ty=false) (hv:v<v')
  (h:GoodM P Inv f args H (.osl (.b 0) v 0 k) [⟨v,sz,ty,xs,frz,pm⟩]):GoodM P Inv f args H (.osl (.b 0) v' 0 k) [⟨v',sz,ty,xs,frz,pm⟩]:=by
 refine ⟨h.1,fun w0 w A M vs hI hB hR W=>(h.2 w0 w A M vs hI hB hR W).mono ?_⟩
 rintro e w' ⟨u,A',M',rfl,h1,h2,h3,h4,h5⟩;obtain ⟨m,g1,g2,g3,g4⟩:=Rel.osl_inv h5;obtain ⟨bx,q1,q2⟩:=h4.box _ m g1;have:bx=⟨v,sz,ty,xs,frz,pm⟩:=by
  have:=q1;rw [xa4] at this;simpa using this.symm
 subst this;have Q:v=m.ver:=q2.ver;have O:MExt M' (MSet M' (.b 0) ⟨m.b,v',m.sz,m.cap,m.ty⟩):=xob g1 (.inr (by simp only;omega))
 have J:∀ id m1,MSet M' (.b 0) ⟨m.b,v',m.sz,m.cap,m.ty⟩ id=some m1->∃ m0,M' id=some m0/\m1.b=m0.b/\m1.cap=m0.cap:=fun id m1 q=>by
  by_cases hi:id=.b 0
  . subst hi;simp [MSet] at q;subst q;exact ⟨m,g1,rfl,rfl⟩
  . exact ⟨m1,by simpa [MSet,hi] using q,rfl,rfl⟩
 have hR':HR w' A' (MSet M' (.b 0) ⟨m.b,v',m.sz,m.cap,m.ty⟩) w0.heap.size [⟨v',sz,ty,xs,frz,pm⟩]:=by
  refine ⟨fun id m1 q=>?_,fun id id' m1 m2 k1 k2 c1 c2 he=>?_,h4.lt⟩
  . by_cases hi:id=.b 0
    . subst hi;have:m1=⟨m.b,v',m.sz,m.cap,m.ty⟩:=by simp [MSet] at q;exact q.symm
      subst this;have q3:=q2.mono (w':=w') (fun _=>rfl) (fun _ _ _=>rfl) (zb _) (fun _ _ h=>h) q2.guard O
      exact ⟨⟨v',sz,ty,xs,frz,pm⟩,rfl,rfl,q3.sz,q3.ty,q3.capm,q3.fits,q3.ok,q3.low,q3.lt,q3.cells,q3.guard⟩
    . have Y:M' id=some m1:=by simpa [MSet,hi] using q
      obtain ⟨bx,k1,k2⟩:=h4.box id m1 Y;have k3:getB [⟨v',sz,ty,xs,frz,pm⟩] id=some bx:=by
       rw [<-k1];exact xcJ (H:=[⟨v,sz,ty,xs,frz,pm⟩]) (n:=0) (bx:=⟨v,sz,ty,xs,frz,pm⟩) (bx':=⟨v',sz,ty,xs,frz,pm⟩) rfl U U hi
      exact ⟨bx,k3,k2.mono (fun _=>rfl) (fun _ _ _=>rfl) (zb _) (fun _ _ h=>h) k2.guard O⟩
  . obtain ⟨n1,a1,a2,a3⟩:=J id m1 k1;obtain ⟨n2,b1,b2,b3⟩:=J id' m2 k2;exact h4.inj id id' n1 n2 a1 b1 (by omega) (by omega) (by rw [<-a2,<-b2,he])
 refine ⟨u,A',MSet M' (.b 0) ⟨m.b,v',m.sz,m.cap,m.ty⟩,rfl,h1,h2,h3.step ⟨zb _,fun _ _ _=>rfl,fun _ _ h=>h,fun _ _ h _=>h,O,⟨fun _ _ _=>rfl,fun id m1 q h0=>?_⟩⟩,hR',?_⟩
 . obtain ⟨n1,a1,a2,a3⟩:=J id m1 q;exact .inl ⟨id,n1,a1,by omega,a2⟩
 . exact .osl u (.b 0) v' 0 k ⟨m.b,v',m.sz,m.cap,m.ty⟩ (by simp [MSet]) (zb _) g3 fun _=>g4 Q
end Go.Sim
end
noncomputable section
namespace Go.Sim
open Go.RowKit Go.Proofs
noncomputable abbrev P0:Program:=Tryz.prog
section
variable {α β γ ρ σ : Type}
def qI:Pat AV Int:=pInt .i64
def qL (k:Nat):Pat AV (List AV):=xJN k xJz
def qB {β:Type} (v s t:Nat) (q:Pat (List AV) β):Pat Box β:=xJK v s t false true q
def bF (v s t:Nat) (x:List AV):Box:=⟨v,s,t,x,false,true⟩
def uI:SPat Int:=sEq qI
def uL (k:Nat):SPat (List AV):=xJL k xJz
def q1 {α α0:Type} (a:Pat α α0):Pat (List α) (α0×Unit):=xJu a (xJw)
def q2 {α α0 α1:Type} (a:Pat α α0) (b:Pat α α1):Pat (List α) (α0×α1×Unit):=xJu a (xJu b (xJw))
def q3 {α α0 α1 α2:Type} (a:Pat α α0) (b:Pat α α1) (c:Pat α α2):Pat (List α) (α0×α1×α2×Unit):=xJu a (xJu b (xJu c (xJw)))
def q4 {α α0 α1 α2 α3:Type} (a:Pat α α0) (b:Pat α α1) (c:Pat α α2) (d:Pat α α3):Pat (List α) (α0×α1×α2×α3×Unit):=xJu a (xJu b (xJu c (xJu d (xJw))))
def q5 {α α0 α1 α2 α3 α4:Type} (a:Pat α α0) (b:Pat α α1) (c:Pat α α2) (d:Pat α α3) (e:Pat α α4):Pat (List α) (α0×α1×α2×α3×α4×Unit):=xJu a (xJu b (xJu c (xJu d (xJu e (xJw)))))
def q6 {α α0 α1 α2 α3 α4 α5:Type} (a:Pat α α0) (b:Pat α α1) (c:Pat α α2) (d:Pat α α3) (e:Pat α α4) (f:Pat α α5):Pat (List α) (α0×α1×α2×α3×α4×α5×Unit):=xJu a (xJu b (xJu c (xJu d (xJu e (xJu f (xJw))))))
def q7 {α α0 α1 α2 α3 α4 α5 α6:Type} (a:Pat α α0) (b:Pat α α1) (c:Pat α α2) (d:Pat α α3) (e:Pat α α4) (f:Pat α α5) (g:Pat α α6):Pat (List α) (α0×α1×α2×α3×α4×α5×α6×Unit):=xJu a (xJu b (xJu c (xJu d (xJu e (xJu f (xJu g (xJw)))))))
def q8 {α α0 α1 α2 α3 α4 α5 α6 α7:Type} (a:Pat α α0) (b:Pat α α1) (c:Pat α α2) (d:Pat α α3) (e:Pat α α4) (f:Pat α α5) (g:Pat α α6) (h:Pat α α7):Pat (List α) (α0×α1×α2×α3×α4×α5×α6×α7×Unit):=xJu a (xJu b (xJu c (xJu d (xJu e (xJu f (xJu g (xJu h (xJw))))))))
def q9 {α α0 α1 α2 α3 α4 α5 α6 α7 α8:Type} (a:Pat α α0) (b:Pat α α1) (c:Pat α α2) (d:Pat α α3) (e:Pat α α4) (f:Pat α α5) (g:Pat α α6) (h:Pat α α7) (i:Pat α α8):Pat (List α) (α0×α1×α2×α3×α4×α5×α6×α7×α8×Unit):=xJu a (xJu b (xJu c (xJu d (xJu e (xJu f (xJu g (xJu h (xJu i (xJw)))))))))
def q10 {α α0 α1 α2 α3 α4 α5 α6 α7 α8 α9:Type} (a:Pat α α0) (b:Pat α α1) (c:Pat α α2) (d:Pat α α3) (e:Pat α α4) (f:Pat α α5) (g:Pat α α6) (h:Pat α α7) (i:Pat α α8) (j:Pat α α9):Pat (List α) (α0×α1×α2×α3×α4×α5×α6×α7×α8×α9×Unit):=xJu a (xJu b (xJu c (xJu d (xJu e (xJu f (xJu g (xJu h (xJu i (xJu j (xJw))))))))))
def u1 {α0:Type} (a:SPat α0):SPatL (α0×Unit):=xJv a (xJy)
def u2 {α0 α1:Type} (a:SPat α0) (b:SPat α1):SPatL (α0×α1×Unit):=xJv a (xJv b (xJy))
def u3 {α0 α1 α2:Type} (a:SPat α0) (b:SPat α1) (c:SPat α2):SPatL (α0×α1×α2×Unit):=xJv a (xJv b (xJv c (xJy)))
def u4 {α0 α1 α2 α3:Type} (a:SPat α0) (b:SPat α1) (c:SPat α2) (d:SPat α3):SPatL (α0×α1×α2×α3×Unit):=xJv a (xJv b (xJv c (xJv d (xJy))))
def u5 {α0 α1 α2 α3 α4:Type} (a:SPat α0) (b:SPat α1) (c:SPat α2) (d:SPat α3) (e:SPat α4):SPatL (α0×α1×α2×α3×α4×Unit):=xJv a (xJv b (xJv c (xJv d (xJv e (xJy)))))
def u6 {α0 α1 α2 α3 α4 α5:Type} (a:SPat α0) (b:SPat α1) (c:SPat α2) (d:SPat α3) (e:SPat α4) (f:SPat α5):SPatL (α0×α1×α2×α3×α4×α5×Unit):=xJv a (xJv b (xJv c (xJv d (xJv e (xJv f (xJy))))))
def u7 {α0 α1 α2 α3 α4 α5 α6:Type} (a:SPat α0) (b:SPat α1) (c:SPat α2) (d:SPat α3) (e:SPat α4) (f:SPat α5) (g:SPat α6):SPatL (α0×α1×α2×α3×α4×α5×α6×Unit):=xJv a (xJv b (xJv c (xJv d (xJv e (xJv f (xJv g (xJy)))))))
def LR.okB:LR->Bool
 | .leaf e _ _=>match e with|.normal=>false|_=>true
 | .node _ a b=>a.okB&&b.okB
theorem LR.okB_ne:∀ {r:LR},r.okB=true->r.eval.1≠.normal
 | .leaf e _ _,h=>fun c=>by
  have c:e=.normal:=c;subst c;simp [LR.okB] at h
 | .node true a b,h=>LR.okB_ne (r:=a) (by simp only [LR.okB,ze] at h;exact h.1)
 | .node false a b,h=>LR.okB_ne (r:=b) (by simp only [LR.okB,ze] at h;exact h.2)
abbrev StT (σ ρ:Type):=σ->Option (σ⊕ρ)
def inL {σ ρ:Type} (s:σ):Option (σ⊕ρ):=some (.inl s)
def inR {σ ρ:Type} (p:ρ):Option (σ⊕ρ):=some (.inr p)
def ixI (l:List AV) (i:Int):Bool:=decide ((0:Int)<=i)&&decide (i<(↑l.length:Int))
def ixS (l:List AV) (i:Int) (s:Sh) (k:Nat):Bool:=decide (i.toNat<l.length)&&xIL s ((l.getD i.toNat .top).cells.getD k .top)
def ixT (l:List AV) (i:Int) (n:Nat) (ss:List Sh) (k:Nat):Bool:=decide (i.toNat<l.length)&&((l.getD i.toNat .top).cells.length==n&&xIS ss (l.getD i.toNat .top).cells k)
def gC (l:List AV) (i:Int) (k:Nat):AV:=(l.getD i.toNat .top).cells.getD k .top
def rmB (n:Nat) (l:List AV) (c z:Nat):Bool:=n==l.length&&(decide ((n+c)*z<=140737488355328)&&decide (n+c<=4611686018427387904))
abbrev RT:=Exit×List AV×List Box
abbrev HL (E:Env) (nt pin:Nat) (ls:List TypeId) (lp:List (Nat×Lp)) (fn:Func):Prop:=LoOk Tryz.prog (xJt.at pin) (E.fn nt pin (lsOf ls) (xI8 lp)) (fn.body.getD .skip)
abbrev FX (E:Env) (nt pin:Nat) (ls:List TypeId) (lp:List (Nat×Lp)) (fn:Func) (pv:SPatL β) (t:β->(T:Type)->T->(ρ->T)->T) (e:β->ρ->AV):Prop:=∀ b,XF Tryz.prog (E.fn nt pin (lsOf ls) (xI8 lp)) fn (fn.body.getD .skip) (pv.enc b)=t b (Option AV) none fun p=>some (e b p)
abbrev FE (t:β->(T:Type)->T->(ρ->T)->T) (e:β->ρ->AV):Prop:=∀ b,Enc (e b) (t b (Option ρ) none some) (t b (Option AV) none fun p=>some (e b p))
abbrev MX (E:Env) (nt pin:Nat) (ls:List TypeId) (lp:List (Nat×Lp)) (fn:Func) (pv:SPatL β) (pb:Pat (List Box) γ) (t:β->γ->(T:Type)->T->(ρ->T)->T) (e:β->γ->ρ->AV×List Box):Prop:=∀ b c,XFM Tryz.prog (E.fn nt pin (lsOf ls) (xI8 lp)) fn (fn.body.getD .skip) (pv.enc b) (pb.enc c)=t b c (Option (AV×List Box)) none fun p=>some (e b c p)
abbrev ME (t:β->γ->(T:Type)->T->(ρ->T)->T) (e:β->γ->ρ->AV×List Box):Prop:=∀ b c,Enc (e b c) (t b c (Option ρ) none some) (t b c (Option (AV×List Box)) none fun p=>some (e b c p))
abbrev TX (E:Env) (nt pin:Nat) (ls:List TypeId) (lp:List (Nat×Lp)) (fn:Func) (pv:SPatL β) (t:β->(ρ->Option AV)->Option AV) (e:β->ρ->AV):Prop:=∀ b,XF Tryz.prog (E.fn nt pin (lsOf ls) (xI8 lp)) fn (fn.body.getD .skip) (pv.enc b)=t b fun p=>some (e b p)
noncomputable abbrev LX (E:Env) (nt pin:Nat) (ls:List TypeId) (lp:List (Nat×Lp)) (l:Code) (lv lo:List Nat) (cv:List (Nat×Nat×TypeId)) (pv:Pat (List AV) β) (pb:Pat (List Box) γ) (F:β->γ->(σ->Option (σ⊕ρ))×σ×(ρ->LR)) (G:β->γ->σ->(β×γ)×((σ->Option RT)->(ρ->Option RT)->Option RT)):Prop:=∀ b c s,XR Tryz.prog (E.fn nt pin (lsOf ls) (xI8 lp)) lv lo cv l (pv.enc (G b c s).1.1) (pb.enc (G b c s).1.2)=(G b c s).2 (fun s=>some (encR (fun s=>(pv.enc (G b c s).1.1,pb.enc (G b c s).1.2)) (F b c).2.2 (.inl s))) fun p=>some (encR (fun s=>(pv.enc (G b c s).1.1,pb.enc (G b c s).1.2)) (F b c).2.2 (.inr p))
abbrev LE (pv:Pat (List AV) β) (pb:Pat (List Box) γ) (F:β->γ->(σ->Option (σ⊕ρ))×σ×(ρ->LR)) (G:β->γ->σ->(β×γ)×((σ->Option RT)->(ρ->Option RT)->Option RT)):Prop:=∀ b c s,Enc (encR (fun s=>(pv.enc (G b c s).1.1,pb.enc (G b c s).1.2)) (F b c).2.2) ((F b c).1 s) ((G b c s).2 (fun s=>some (encR (fun s=>(pv.enc (G b c s).1.1,pb.enc (G b c s).1.2)) (F b c).2.2 (.inl s))) fun p=>some (encR (fun s=>(pv.enc (G b c s).1.1,pb.enc (G b c s).1.2)) (F b c).2.2 (.inr p)))
theorem eV {f:α->β} {a:Option α} {b:Option β} (Y:Option β) (h:b=Y) (he:Enc f a Y):Enc f a b:=h▸he
abbrev LA:=List AV
theorem lkN {P:Program} {Inv:IV} {E:Env}:∀ c,c∈([]:List Code)->∀ lp,E.lp (xI0 c)=some lp->LoopOk P Inv E.nt c lp:=fun c h=>by simp at h
theorem lkC {P:Program} {Inv:IV} {E:Env} {l:Code} {ls:List Code} {lp0:Lp} (hok:LoopOk P Inv E.nt l lp0) (ht:∀ c,c∈ls->∀ lp,E.lp (xI0 c)=some lp->LoopOk P Inv E.nt c lp) (h:E.lp (xI0 l)=some lp0:=by kernel_rfl):∀ c,c∈l::ls->∀ lp,E.lp (xI0 c)=some lp->LoopOk P Inv E.nt c lp:=fun c hc lp hs=>by
 rcases zB.1 hc with rfl|hc
 . rw [h,z1] at hs;subst hs;exact hok
 . exact ht c hc lp hs
theorem eN {f:α->β} {b:Option β}:Enc f none b:=Enc.none
theorem eS {f:α->β} {a:α} {b:β} (h:b=f a):Enc f (some a) (some b):=Enc.some h
theorem eB {f:α->β} {t:Bool} {a a':Option α} {b b':Option β} (h1:Enc f a b) (h2:Enc f a' b'):Enc f (br t a a') (br t b b'):=Enc.br h1 h2
def fnO (pv:SPatL β) (t:β->(T:Type)->T->(ρ->T)->T) (e:β->ρ->AV) (d:ρ):List AV->Option (Bool×AV):=ocOf pv fun b=>((t b (Option ρ) none some).isSome,e b ((t b (Option ρ) none some).getD d))
def fmO (pv:SPatL β) (pb:Pat (List Box) γ) (t:β->γ->(T:Type)->T->(ρ->T)->T) (e:β->γ->ρ->AV×List Box) (d:ρ):List AV->List Box->Option (Bool×AV×List Box):=omOf pv pb fun b c=>((t b c (Option ρ) none some).isSome,e b c ((t b c (Option ρ) none some).getD d))
noncomputable def lpO (lv lo:List Nat) (cv:List (Nat×Nat×TypeId)) (pv:Pat (List AV) β) (pb:Pat (List Box) γ) (F:β->γ->(σ->Option (σ⊕ρ))×σ×(ρ->LR)) (d:ρ):Lp :=
 lpOf lv lo cv pv pb fun b c=>((Iter (F b c).1 (F b c).2.1).isSome,(F b c).2.2 ((Iter (F b c).1 (F b c).2.1).getD d))
section
variable {E : Env}
def Tot {α:Type} (e:ρ->α) (a:ρ) (x:Option α):Prop:=x=some (e a)
theorem eT {α:Type} {e:ρ->α} {t:Bool} {a b:ρ} {x y:Option α} (h1:Tot e a x) (h2:Tot e b y):Tot e (br t a b) (br t x y):=by cases t<;>assumption
theorem eU {α:Type} {e:ρ->α} {a:ρ} {x:α} (h:x=e a):Tot e a (some x):=congrArg some h
def ftO (pv:SPatL β) (f:β->ρ) (e:β->ρ->AV):List AV->Option (Bool×AV):=ocOf pv fun b=>(true,e b (f b))
theorem ftC (h:xIN Tryz.prog xJt E) {g:FuncId} {fn:Func} (hf:Tryz.prog.funcs[g]?=some fn) (nt pin:Nat) (ls:List TypeId) (lp:List (Nat×Lp)) {pv:SPatL β} {f:β->ρ} {e:β->ρ->AV}
  (hl:HL E nt pin ls lp fn) (t:β->(ρ->Option AV)->Option AV) (hx:TX E nt pin ls lp fn pv t e:=by intro b;kernel_rfl)
  (he:∀ b,Tot (e b) (f b) (t b fun p=>some (e b p)):=by intro b;repeat' first|apply eT|exact eU rfl)
  (hb:fn.body.isSome=true:=by exact rfl) (hn:(fn.name == "runtime.NumGoroutine")=false:=by kernel_rfl):OcOk Tryz.prog xJt g (ftO pv f e):=xiX fun b r hh=>by
 obtain ⟨_,h2⟩:=Prod.mk.inj hh;subst h2;exact xj6 (p:=pin) (xlU xIW (xIX Tryz.prog _) rfl h.fn hf hb hn hl ((hx b).trans (he b)))
theorem lk0 {Inv:IV} {c:Code} (h:xI5 c=[]:=by kernel_rfl) (hc:((xI1 c).all fun d=>(E.lp (condId d)).isNone)=true:=by kernel_rfl):LoOk Tryz.prog Inv E c:=xit h hc
theorem lk1 {Inv:IV} {c l:Code} {lp0:Lp} (hok:LoopOk Tryz.prog Inv E.nt l lp0) (h:xI5 c=[l]:=by kernel_rfl) (he:E.lp (xI0 l)=some lp0:=by kernel_rfl) (hc:((xI1 c).all fun d=>(E.lp (condId d)).isNone)=true:=by kernel_rfl):LoOk Tryz.prog Inv E c:=xn9 h (lkC hok lkN he) hc
structure EO where
 E:Env
 ok:xIN Tryz.prog xJt E
def EO.w (e:EO) {g:FuncId} {o:List AV->Option (Bool×AV)} (c:OcOk Tryz.prog xJt g o):EO:=⟨e.E.with g o,e.ok.with c⟩
def EO.wM (e:EO) {g:FuncId} {o:List AV->List Box->Option (Bool×AV×List Box)} (c:OmOk Tryz.prog xJt g o):EO:=⟨e.E.withM g o,e.ok.withM c⟩
theorem fnC (h:xIN Tryz.prog xJt E) {g:FuncId} {fn:Func} (hf:Tryz.prog.funcs[g]?=some fn) (nt pin:Nat) (ls:List TypeId) (lp:List (Nat×Lp)) {pv:SPatL β} {t:β->(T:Type)->T->(ρ->T)->T} {e:β->ρ->AV} {d:ρ}
  (hl:HL E nt pin ls lp fn) (hx:FX E nt pin ls lp fn pv t e:=by intro b;kernel_rfl)
  (he:FE t e:=by intro b;repeat' first|apply eB|exact eN|exact eS rfl)
  (hb:fn.body.isSome=true:=by exact rfl) (hn:(fn.name == "runtime.NumGoroutine")=false:=by kernel_rfl):OcOk Tryz.prog xJt g (fnO pv t e d):=xiX fun b r hh=>by
 obtain ⟨h1,h2⟩:=Prod.mk.inj hh;subst h2;exact xj6 (p:=pin) (xlU xIW (xIX Tryz.prog _) rfl h.fn hf hb hn hl ((hx b).trans (he b _ (xbt h1))))
theorem fmC (h:xIN Tryz.prog xJt E) {g:FuncId} {fn:Func} (hf:Tryz.prog.funcs[g]?=some fn) (nt pin:Nat) (ls:List TypeId) (lp:List (Nat×Lp)) {pv:SPatL β} {pb:Pat (List Box) γ} {t:β->γ->(T:Type)->T->(ρ->T)->T} {e:β->γ->ρ->AV×List Box} {d:ρ}
  (hl:HL E nt pin ls lp fn) (hx:MX E nt pin ls lp fn pv pb t e:=by intro b c;kernel_rfl)
  (he:ME t e:=by intro b c;repeat' first|apply eB|exact eN|exact eS rfl)
  (hp:∀ c,(pb.enc c).length=pin:=by exact fun _=>rfl) (hb:fn.body.isSome=true:=by exact rfl) (hn:(fn.name == "runtime.NumGoroutine")=false:=by kernel_rfl):OmOk Tryz.prog xJt g (fmO pv pb t e d):=xr7 fun b c r H' hh=>by
 obtain ⟨h1,h2⟩:=Prod.mk.inj hh;exact xo8 (p:=pin) (xo7 xIW (xIX Tryz.prog _) rfl h.fn (hp c) hf hb hn hl (((hx b c).trans (he b c _ (xbt h1))).trans (congrArg some h2)))
theorem lpC (h:xIN Tryz.prog xJt E) (nt pin:Nat) (ls:List TypeId) (lp:List (Nat×Lp)) {l:Code} {lv lo:List Nat} {cv:List (Nat×Nat×TypeId)} {pv:Pat (List AV) β} {pb:Pat (List Box) γ} {F:β->γ->(σ->Option (σ⊕ρ))×σ×(ρ->LR)} {d:ρ}
  (hl:LoOk Tryz.prog (xJt.at pin) (E.fn nt pin (lsOf ls) (xI8 lp)) l) (G:β->γ->σ->(β×γ)×((σ->Option RT)->(ρ->Option RT)->Option RT))
  (hx:LX E nt pin ls lp l lv lo cv pv pb F G:=by intro b c s;kernel_rfl)
  (he:LE pv pb F G:=by intro b c s;repeat' first|apply eB|exact eN|exact eS rfl)
  (hM:∀ b c,(G b c (F b c).2.1).1=(b,c):=by exact fun _ _=>rfl) (ho:∀ b c r,((F b c).2.2 r).okB=true:=by exact fun _ _ _=>rfl):LoopOk Tryz.prog (xJt.at pin) nt l (lpO lv lo cv pv pb F d):=xyj fun b c r hh=>by
 obtain ⟨h1,h2⟩:=Prod.mk.inj hh;subst h2;have:=xqs xIW (xIX Tryz.prog _) rfl (h.fn (nt:=nt) (pin:=pin) (ls:=lsOf ls) (lp:=xI8 lp)) hl (fun s=>(pv.enc (G b c s).1.1,pb.enc (G b c s).1.2)) (F b c).2.2 (fun p=>LR.okB_ne (ho b c p)) (fun s r hr=>(hx b c s).trans (he b c s r hr)) (xbt (d:=d) h1)
 dsimp only at this;rw [hM b c] at this;exact this
structure LO (pin nt:Nat) (l:Code) where
 lp:Lp
 ok:LoopOk Tryz.prog (xJt.at pin) nt l lp
noncomputable def EO.f (x:EO) {g:FuncId} {fn:Func} (hf:Tryz.prog.funcs[g]?=some fn) (nt pin:Nat) (ls:List TypeId) (lp:List (Nat×Lp))
 (hl:HL x.E nt pin ls lp fn) (pv:SPatL β) (t:β->(T:Type)->T->(ρ->T)->T) (e:β->ρ->AV) (d:ρ) (hx:FX x.E nt pin ls lp fn pv t e:=by intro b;kernel_rfl)
 (he:FE t e:=by intro b;repeat' first|apply eB|exact eN|exact eS rfl)
 (hb:fn.body.isSome=true:=by exact rfl) (hn:(fn.name == "runtime.NumGoroutine")=false:=by kernel_rfl):EO:=x.w (fnC (d:=d) x.ok hf nt pin ls lp hl hx he hb hn)
noncomputable def EO.fM (x:EO) {g:FuncId} {fn:Func} (hf:Tryz.prog.funcs[g]?=some fn) (nt pin:Nat) (ls:List TypeId) (lp:List (Nat×Lp))
 (hl:HL x.E nt pin ls lp fn) (pv:SPatL β) (pb:Pat (List Box) γ) (t:β->γ->(T:Type)->T->(ρ->T)->T) (e:β->γ->ρ->AV×List Box) (d:ρ) (hx:MX x.E nt pin ls lp fn pv pb t e:=by intro b c;kernel_rfl)
 (he:ME t e:=by intro b c;repeat' first|apply eB|exact eN|exact eS rfl)
 (hp:∀ c,(pb.enc c).length=pin:=by exact fun _=>rfl) (hb:fn.body.isSome=true:=by exact rfl) (hn:(fn.name == "runtime.NumGoroutine")=false:=by kernel_rfl):EO:=x.wM (fmC (d:=d) x.ok hf nt pin ls lp hl hx he hp hb hn)
noncomputable def EO.fT (x:EO) {g:FuncId} {fn:Func} (hf:Tryz.prog.funcs[g]?=some fn) (nt pin:Nat) (ls:List TypeId) (lp:List (Nat×Lp))
 (hl:HL x.E nt pin ls lp fn) (t:β->(ρ->Option AV)->Option AV) (pv:SPatL β) (f:β->ρ) (e:β->ρ->AV) (hx:TX x.E nt pin ls lp fn pv t e:=by intro b;kernel_rfl)
 (he:∀ b,Tot (e b) (f b) (t b fun p=>some (e b p)):=by intro b;repeat' first|apply eT|exact eU rfl)
 (hb:fn.body.isSome=true:=by exact rfl) (hn:(fn.name == "runtime.NumGoroutine")=false:=by kernel_rfl):EO:=x.w (ftC x.ok hf nt pin ls lp hl t hx he hb hn)
noncomputable def EO.l (x:EO) (nt pin:Nat) (ls:List TypeId) (lp:List (Nat×Lp)) (fn:Func) (k:Nat) (hl:LoOk Tryz.prog (xJt.at pin) (x.E.fn nt pin (lsOf ls) (xI8 lp)) (xIR fn k)) (lv lo:List Nat) (cv:List (Nat×Nat×TypeId)) (pv:Pat (List AV) β) (pb:Pat (List Box) γ) (F:β->γ->(σ->Option (σ⊕ρ))×σ×(ρ->LR)) (d:ρ)
 (G:β->γ->σ->(β×γ)×((σ->Option RT)->(ρ->Option RT)->Option RT))
 (hx:LX x.E nt pin ls lp (xIR fn k) lv lo cv pv pb F G:=by intro b c s;kernel_rfl)
 (he:LE pv pb F G:=by intro b c s;repeat' first|apply eB|exact eN|exact eS rfl)
 (hM:∀ b c,(G b c (F b c).2.1).1=(b,c):=by exact fun _ _=>rfl) (ho:∀ b c r,((F b c).2.2 r).okB=true:=by exact fun _ _ _=>rfl):LO pin nt (xIR fn k):=⟨lpO lv lo cv pv pb F d,lpC x.ok nt pin ls lp hl G hx he hM ho⟩
theorem lks {Inv:IV} {c:Code} {ls:List Code} (hl:∀ l,l∈ls->∀ lp,E.lp (xI0 l)=some lp->LoopOk Tryz.prog Inv E.nt l lp) (h:xI5 c=ls:=by kernel_rfl) (hc:((xI1 c).all fun d=>(E.lp (condId d)).isNone)=true:=by kernel_rfl):LoOk Tryz.prog Inv E c:=xn9 h hl hc
end
end
end Go.Sim
end
noncomputable section
namespace Go.Sim
theorem sUF:(∀ {σ ρ:Type} (s:σ),(inL s:Option (σ⊕ρ))=some (.inl s))/\(∀ {σ ρ:Type} (p:ρ),(inR p:Option (σ⊕ρ))=some (.inr p))/\(∀ (l:List AV) (i:Int),ixI l i=(decide ((0:Int)<=i)&&decide (i<(↑l.length:Int))))/\(∀ (l:List AV) (i:Int) (s:Sh) (k:Nat),ixS l i s k=(decide (i.toNat<l.length)&&xIL s ((l.getD i.toNat .top).cells.getD k .top)))/\(∀ (l:List AV) (i:Int) (n:Nat) (ss:List Sh) (k:Nat),ixT l i n ss k=(decide (i.toNat<l.length)&&((l.getD i.toNat .top).cells.length==n&&xIS ss (l.getD i.toNat .top).cells k)))/\(∀ (l:List AV) (i:Int) (k:Nat),gC l i k=(l.getD i.toNat .top).cells.getD k .top)/\(∀ (n:Nat) (l:List AV) (c z:Nat),rmB n l c z=(n==l.length&&(decide ((n+c)*z<=140737488355328)&&decide (n+c<=4611686018427387904)))) :=
 ⟨fun _=>rfl,fun _=>rfl,fun _ _=>rfl,fun _ _ _ _=>rfl,fun _ _ _ _ _=>rfl,fun _ _ _=>rfl,fun _ _ _ _=>rfl⟩
theorem sBU:((∀ {α β:Type} {l:List α} (f:α->β),(l.map f).length=l.length)/\(∀ {T:Type} {a b:T},br true a b=a)/\(∀ {T:Type} {a b:T},br false a b=b)/\(∀ (h:Decidable True),@decide True h=true)/\(∀ (h:Decidable False),@decide False h=false) /\
  (∀ b:Bool,(b&&true)=b)/\(∀ b:Bool,(true&&b)=b)/\((!true)=false)/\((!false)=true)/\(∀ n:Nat,(n:Int).toNat=n)/\(∀ n:Nat,(0:Int)<=(n:Int))/\(∀ {α:Type} {a:α},(some a).isSome=true)/\(∀ {α:Type} {a b:α},(some a).getD b=a) /\
  (∀ {α:Type} [BEq α] [ReflBEq α] (a:α),(a==a)=true)/\(∀ n:Nat,0+n=n)/\(∀ n:Nat,n - 0=n))/\(∀ {σ ρ:Type} (s:σ),(inL s:Option (σ⊕ρ))=some (.inl s))/\(∀ {σ ρ:Type} (p:ρ),(inR p:Option (σ⊕ρ))=some (.inr p))/\(∀ (l:List AV) (i:Int),ixI l i=(decide ((0:Int)<=i)&&decide (i<(↑l.length:Int))))/\(∀ (l:List AV) (i:Int) (s:Sh) (k:Nat),ixS l i s k=(decide (i.toNat<l.length)&&xIL s ((l.getD i.toNat .top).cells.getD k .top)))/\(∀ (l:List AV) (i:Int) (n:Nat) (ss:List Sh) (k:Nat),ixT l i n ss k=(decide (i.toNat<l.length)&&((l.getD i.toNat .top).cells.length==n&&xIS ss (l.getD i.toNat .top).cells k)))/\(∀ (l:List AV) (i:Int) (k:Nat),gC l i k=(l.getD i.toNat .top).cells.getD k .top)/\(∀ (n:Nat) (l:List AV) (c z:Nat),rmB n l c z=(n==l.length&&(decide ((n+c)*z<=140737488355328)&&decide (n+c<=4611686018427387904)))) :=
 ⟨⟨z8,rfl,rfl,fun h=>by simp,fun h=>by simp,zR,Bool.true_and,rfl,rfl,zM,Int.natCast_nonneg,rfl,rfl,fun a=>beq_self_eq_true a,zG,Nat.sub_zero⟩,sUF⟩
theorem sOO:(∀ {α:Type} {l:List α},l.drop 0=l)/\(∀ {α:Type} {l:List α} {i:Nat},l.length<=i->l.take i=l)/\(∀ n:Nat,0+n=n)/\(∀ {α β:Type} {l:List α} (f:α->β),(l.map f).length=l.length)/\(∀ n:Nat,n<=n)/\(∀ (h:Decidable True),@decide True h=true)/\(∀ b:Bool,(b&&true)=b)/\(∀ {T:Type} {a b:T},br true a b=a) /\
  (∀ {α:Type} {a:α},(some a).isSome=true)/\(∀ {α:Type} {a b:α},(some a).getD b=a) :=
 ⟨zq,zh,zG,z8,zb,fun h=>by simp,zR,rfl,rfl,rfl⟩
end Go.Sim
noncomputable def Go.Sim.M.xGM:Go.Sim.EO:=Go.Sim.EO.mk Go.Sim.M.E0 Go.Sim.M.xGN
end
noncomputable section
set_option maxRecDepth 100000
namespace Go.Sim.M
open Go.IntKind (i64 u64 u8)
open Go.RowKit Go.Proofs
def xcT {T:Type} (a:List UInt8) (δ:T) (κ:Int×Nat×LA->T):T:=br (decide ((byteAVs a).length*1<=140737488355328)&&decide ((byteAVs a).length<=4611686018427387904)) (κ ((↑a.length:Int),(byteAVs a).length,byteAVs a)) δ
def xar (a:List UInt8):=xcT a none some
def xGP:EO:=xGM.fM Tryz.func58 19 1 [] [] lk0 (u2 (sEq (xJI 0 0 0 0)) (sEq pStr)) (q1 (qB 0 2 99 (q1 (xJJ (q2 pNilptr pNils))))) (fun (_,a,_) (((_,_,_),_),_) _=>xcT a) (fun _ _ p=>(AV.tuple [AV.int .i64 p.1,.top],([⟨0,2,99,[AV.agg [AV.own 0 0 0 0,AV.osl 1 0 0 p.2.1]],false,false⟩,bF 0 1 5 p.2.2]:List Box))) (0,0,[])
def xcH {T:Type} (a:List UInt8) (n:Nat) (b:LA) (δ:T) (κ:Int×Nat×LA->T):T:=br (n==b.length&&(decide ((n+(byteAVs a).length)*1<=140737488355328)&&decide (n+(byteAVs a).length<=4611686018427387904))) (κ ((↑a.length:Int),n+(byteAVs a).length,b++byteAVs a)) δ
def xai (a:List UInt8) (n:Nat) (b:LA):=xcH a n b none some
def xGQ:EO:=xGP.fM Tryz.func58 19 2 [] [] lk0 (u2 (sEq (xJI 0 0 0 0)) (sEq pStr)) (q2 (xJK 0 2 99 false false (q1 (xJJ (q2 (xJI 0 0 0 0) (xJH 1 0 0))))) (qB 0 1 5 xJz)) (fun (_,a,_) (((_,n,_),_),b,_) _=>xcH a n b) (fun _ _ p=>(AV.tuple [AV.int .i64 p.1,.top],([⟨0,2,99,[AV.agg [AV.own 0 0 0 0,AV.osl 1 1 0 p.2.1]],false,false⟩,bF 1 1 5 p.2.2]:List Box))) (0,0,[])
def xkk {T:Type} (a:List UInt8) (n:Nat) (b:LA) (δ:T) (κ:Int×Nat×LA->T):T:=br (n==b.length&&(decide ((n+(byteAVs a).length)*1<=140737488355328)&&decide (n+(byteAVs a).length<=4611686018427387904))) (κ ((↑a.length:Int),n+(byteAVs a).length,b++byteAVs a)) δ
def xAf:EO:=xGQ.fM Tryz.func58 19 2 [] [] lk0 (u2 (sEq (xJI 0 0 0 0)) (sEq pStr)) (q2 (xJK 0 2 99 false false (q1 (xJJ (q2 (xJI 0 0 0 0) (xJH 1 1 0))))) (qB 1 1 5 xJz)) (fun (_,a,_) (((_,n,_),_),b,_) _=>xkk a n b) (fun _ _ p=>(AV.tuple [AV.int .i64 p.1,.top],([⟨0,2,99,[AV.agg [AV.own 0 0 0 0,AV.osl 1 2 0 p.2.1]],false,false⟩,bF 2 1 5 p.2.2]:List Box))) (0,0,[])
def xaK:Env:=xAf.E.fn 17 1 (lsOf []) (xI8 [])
theorem xjI:xIN P0 (xJt.at 1) xaK:=xAf.ok.fn
theorem xi5:LoOk P0 (xJt.at xaK.pin) xaK (Tryz.f60.body.getD .skip):=xit (by kernel_rfl)
def xdX (c:Int):Int:=((c))
def xfn (c:Int):Bool:=true
def xgd {T:Type} (c:Int) (δ:T) (κ:Int->T):T:=κ (c)
theorem xlu (c:Int):Pre (xfn c) (XFM P0 xaK Tryz.f60 (Tryz.f60.body.getD .skip) [AV.own (0:Id) 0 0 0,AV.int .u8 c] [{ ver:=0,sz:=2,ty:=(99:TypeId),xs:=[AV.agg [AV.nilptr,AV.nils]],frz:=false,pm:=true }]) ((.top,([⟨0,2,99,[AV.agg [AV.own 0 0 0 0,AV.osl 1 0 0 1]],false,false⟩,⟨0,1,5,[AV.int .u8 (xdX c)],false,true⟩]:List Box))):=by
 have h:XFM P0 xaK Tryz.f60 (Tryz.f60.body.getD .skip) [AV.own (0:Id) 0 0 0,AV.int .u8 c] [{ ver:=0,sz:=2,ty:=(99:TypeId),xs:=[AV.agg [AV.nilptr,AV.nils]],frz:=false,pm:=true }]=xgd c none (fun (p:Int)=>some (((.top,([⟨0,2,99,[AV.agg [AV.own 0 0 0 0,AV.osl 1 0 0 1]],false,false⟩,⟨0,1,5,[AV.int .u8 p],false,true⟩]:List Box))):(AV×List Box))):=by kernel_rfl
 rw [h];unfold xdX xfn xgd;repeat' (first|exact Pre.none|exact Pre.tt rfl|exact Pre.some rfl|refine Pre.l ?_|refine Pre.r ?_|refine Pre.br (f:=fun (p:Int)=>(((.top,([⟨0,2,99,[AV.agg [AV.own 0 0 0 0,AV.osl 1 0 0 1]],false,false⟩,⟨0,1,5,[AV.int .u8 p],false,true⟩]:List Box))):(AV×List Box))) ?_ ?_|refine Pre.brt (f:=fun (p:Int)=>(((.top,([⟨0,2,99,[AV.agg [AV.own 0 0 0 0,AV.osl 1 0 0 1]],false,false⟩,⟨0,1,5,[AV.int .u8 p],false,true⟩]:List Box))):(AV×List Box))) ?_ ?_)
def xlt:LA->List Box->Option (Bool×AV×List Box):=omOf (xJv (sEq (xJI 0 0 0 0)) (xJv (sEq (pInt .u8)) xJy)) (xJu (xJK 0 2 (99:TypeId) false true (xJu (xJJ (xJu pNilptr (xJu pNils xJw))) xJw)) xJw) fun (_,(c,_)) (((_,(_,_)),_),_)=>(true,((.top,([⟨0,2,99,[AV.agg [AV.own 0 0 0 0,AV.osl 1 0 0 1]],false,false⟩,⟨0,1,5,[AV.int .u8 (xdX c)],false,true⟩]:List Box))))
theorem xls:OmOk P0 xJt 60 (xlt):=xr7 fun b d h f e=>by
 obtain ⟨_,⟨c,_⟩⟩:=b;obtain ⟨⟨⟨_,⟨_,_⟩⟩,_⟩,_⟩:=d;obtain ⟨g,a⟩:=Prod.mk.inj e;refine xo8 (p:=xaK.pin) (xo7 xIW (xIX P0 _) rfl xjI rfl Tryz.func60 rfl (by kernel_rfl) xi5 ((Pre.get (xlu _) rfl).trans ?_))
 exact congrArg some a
def xGR:EO:=xAf.wM xls
def xf3 {T:Type} (c:Int) (n:Nat) (a:LA) (δ:T) (κ:Nat×LA->T):T:=br (rmB n a 1 1) (κ (n+1,a++[AV.int .u8 c])) δ
def xdB (c:Int) (n:Nat) (a:LA):=xf3 c n a none some
def xGS:EO:=xGR.fM Tryz.func60 17 2 [] [] lk0 (u2 (sEq (xJI 0 0 0 0)) (sEq (pInt .u8))) (q2 (xJK 0 2 99 false false (q1 (xJJ (q2 (xJI 0 0 0 0) (xJH 1 0 0))))) (qB 0 1 5 xJz)) (fun (_,c,_) (((_,n,_),_),a,_) _=>xf3 c n a) (fun _ _ p=>(.top,([⟨0,2,99,[AV.agg [AV.own 0 0 0 0,AV.osl 1 1 0 p.1]],false,false⟩,bF 1 1 5 p.2]:List Box))) (0,[])
def xc9 {T:Type} (c:Int) (n:Nat) (a:LA) (δ:T) (κ:Nat×LA->T):T:=br (rmB n a 1 1) (κ (n+1,a++[AV.int .u8 c])) δ
def xce (c:Int) (n:Nat) (a:LA):=xc9 c n a none some
def xGT:EO:=xGS.fM Tryz.func60 17 2 [] [] lk0 (u2 (sEq (xJI 0 0 0 0)) (sEq (pInt .u8))) (q2 (xJK 0 2 99 false false (q1 (xJJ (q2 (xJI 0 0 0 0) (xJH 1 1 0))))) (qB 1 1 5 xJz)) (fun (_,c,_) (((_,n,_),_),a,_) _=>xc9 c n a) (fun _ _ p=>(.top,([⟨0,2,99,[AV.agg [AV.own 0 0 0 0,AV.osl 1 2 0 p.1]],false,false⟩,bF 2 1 5 p.2]:List Box))) (0,[])
def xc2 (a b:Int):Bool:=(br (decide (a>=0)) (br (decide (a<b)) ((decide (b<=1099511627776))) ((false))) ((false)))
def xuJ {T:Type} (a b:Int) (δ:T) (κ:Bool->T):T:=br (decide (a>=0)) (br (decide (a<b)) (κ (decide (b<=1099511627776))) (κ (false))) (κ (false))
def xGU:EO:=xGT.fT Tryz.func82 18 0 [] [] lk0 (fun ((a,b,_),_)=>xuJ a b none) (u1 (xJM (u2 uI uI))) (fun ((a,b,_),_)=>xc2 a b) (fun _ p=>(AV.bool p))
def xk3 (a b t:Int):Bool:=(br (xc2 a b) (br (decide (t>=a)) ((decide (t<b))) ((false))) ((false)))
def xsa {T:Type} (a b t:Int) (δ:T) (κ:Bool->T):T:=br (xc2 a b) (br (decide (t>=a)) (κ (decide (t<b))) (κ (false))) (κ (false))
def xAg:EO:=xGU.fT Tryz.func69 19 0 [] [] lk0 (fun ((a,b,_),t,_)=>xsa a b t none) (u2 (xJM (u2 uI uI)) uI) (fun ((a,b,_),t,_)=>xk3 a b t) (fun _ p=>(AV.bool p))
def xdN (b:Int) (a:LA):=((a.getD (0+b.toNat) .top).cells.getD 0 .top).toInt
def xin (d:Int) (c:Nat) (b a:LA):=((xai (Lib.itoa (xdN d b)) c a).getD (0,0,[])).snd
def xim (d:Int) (c:Nat) (b a:LA):=xce 32 (xin d c b a).fst (xin d c b a).snd
def xil (d:Int) (c:Nat) (b a:LA):=(xim d c b a).getD (0,[])
def xgf {T:Type} (k:LA) (l j:Int) (e:Nat) (i c:Int) (d:Nat) (f g:Int) (h:List UInt8) (a b:LA) (δ:T) (κl:(Int×Nat×Int×Int×List UInt8×LA×LA)->T) (κr:(Nat×Int×Int×List UInt8×LA)->T):T:=br (decide (c<i)) (br (decide (0<=c)&&decide (c<(↑e:Int))) (br (decide (0+c.toNat<a.length)&&xIL (Sh.int .i64) ((a.getD (0+c.toNat) .top).cells.getD 0 .top)) (br (decide ((-9223372036854775808)<=xdN c a)&&decide (xdN c a<=9223372036854775807)) (br ((xai (Lib.itoa (xdN c a)) d b).isSome) (br ((xim c d a b).isSome) (κl (i64.wrap (c+1),(xil c d a b).fst,f,g,h,a,(xil c d a b).snd)) δ) δ) δ) δ) δ) (κr (d,f,g,h,b))
def xaP (k:LA) (l e:Int) (c:Nat) (f:Int):StT (Int×Nat×Int×Int×List UInt8×LA×LA) (Nat×Int×Int×List UInt8×LA):=fun (g,d,h,i,j,b,a)=>xgf k l e c f g d h i j b a none inL inR
def xfB:=xAg.l 37 0 [] [] Tryz.f112 1 lk0 [3,5,8,9,10,21,22,23] [3,5,8,9,10] [] (q8 (xJI 0 0 0 0) (xJI 1 0 0 0) (qL 3) qI qI (xJH 2 0 0) qI qI) (q4 (xJK 0 2 99 false false (q1 (xJJ (q2 (xJI 0 0 0 0) (xJH 3 0 0))))) (qB 0 3 64 (q1 (xJJ (q3 qI qI pStr)))) (qB 0 1 3 xJz) (qB 0 1 5 xJz)) (fun (_,_,k,m,e,c,f,g,_) (((_,d,_),_),((h,i,j,_),_),b,a,_)=>(xaP k m e c f,(g,d,h,i,j,b,a),fun p=>(.leaf (.exit 2) [AV.own 0 0 0 0,AV.own 1 0 0 0,AV.list 3 k,AV.int .i64 m,AV.int .i64 e] [⟨0,2,99,[AV.agg [AV.own 0 0 0 0,AV.osl 2 0 0 p.1]],false,false⟩,bF 0 3 64 [AV.agg [AV.int .i64 p.2.1,AV.int .i64 p.2.2.1,AV.str p.2.2.2.1]],bF 0 1 5 p.2.2.2.2]))) (0,0,0,[],[]) fun (_,_,k,m,e,c,f,_,_) _ (g,d,h,i,j,b,a)=>((((),(),k,m,e,c,f,g,()),((((),d,()),()),((h,i,j,()),()),b,a,())),xgf k m e c f g d h i j b a none)
def xik (b:LA) (e a:Int) (d:Nat) (c:LA):=Iter (xaP b e a 3 3) (0,d,(gC b a 0).toInt,(gC b a 1).toInt,(gC b a 2).toStr,[AV.int .i64 (gC b a 0).toInt,AV.int .i64 (gC b a 1).toInt,AV.int .i64 (↑(gC b a 2).toStr.length:Int)],c)
def xij (d:LA) (e c:Int) (b:Nat) (a:LA):=(xik d e c b a).getD (0,0,0,[],[])
def xii (d:LA) (e c:Int) (b:Nat) (a:LA):=(xij d e c b a).snd.snd.snd
def xih (d:LA) (e c:Int) (b:Nat) (a:LA):=xai (xii d e c b a).fst (xij d e c b a).fst (xii d e c b a).snd
def xig (d:LA) (e c:Int) (b:Nat) (a:LA):=((xih d e c b a).getD (0,0,[])).snd
def xge {T:Type} (d:LA) (e b:Int) (c:Nat) (a:LA) (δ:T) (κl:(Int×Nat×LA)->T) (κr:(Nat×LA)->T):T:=br (decide (b<e)) (br (ixI d b) (br (ixT d b 3 [Sh.int .i64,Sh.int .i64,Sh.str] 0) (br ((xik d e b c a).isSome) (br ((xih d e b c a).isSome) (κl (i64.wrap (b+1),(xig d e b c a).fst,(xig d e b c a).snd)) δ) δ) δ) δ) (κr (c,a))
def xb2 (d:LA) (e:Int):StT (Int×Nat×LA) (Nat×LA):=fun (c,b,a)=>xge d e c b a none inL inR
def xmH:=xAg.l 37 0 [] [(6,xfB.lp)] Tryz.f112 0 (lk1 xfB.ok) [3,8,9,10] [3] [] (q4 (xJI 0 0 0 0) (qL 3) qI qI) (q2 (xJK 0 2 99 false false (q1 (xJJ (q2 (xJI 0 0 0 0) (xJH 1 0 0))))) (qB 0 1 5 xJz)) (fun (_,d,e,c,_) (((_,b,_),_),a,_)=>(xb2 d e,(c,b,a),fun p=>(.leaf (.exit 0) [AV.own 0 0 0 0] [⟨0,2,99,[AV.agg [AV.own 0 0 0 0,AV.osl 1 0 0 p.1]],false,false⟩,bF 0 1 5 p.2]))) (0,[]) fun (_,d,e,_,_) _ (c,b,a)=>((((),d,e,c,()),((((),b,()),()),a,())),xge d e c b a none)
def xbU (a:LA):=((a.getD 0 .top).cells.getD 0 .top).toInt
def xkM (a:LA):=xdB 32 ((xar (Lib.itoa (xbU a))).getD (0,0,[])).snd.fst ((xar (Lib.itoa (xbU a))).getD (0,0,[])).snd.snd
def xkL (a:LA):=(xkM a).getD (0,[])
def xkK (a:LA):=Iter (xaP a (↑a.length:Int) 0 3 3) (1,(xkL a).fst,xbU a,((a.getD 0 .top).cells.getD 1 .top).toInt,((a.getD 0 .top).cells.getD 2 .top).toStr,[AV.int .i64 (xbU a),AV.int .i64 ((a.getD 0 .top).cells.getD 1 .top).toInt,AV.int .i64 (↑((a.getD 0 .top).cells.getD 2 .top).toStr.length:Int)],(xkL a).snd)
def xkJ (a:LA):=(xkK a).getD (0,0,0,[],[])
def xkI (a:LA):=(xkJ a).snd.snd.snd
def xkH (a:LA):=xai (xkI a).fst (xkJ a).fst (xkI a).snd
def xkG (a:LA):=((xkH a).getD (0,0,[])).snd
def xkF (a:LA):=Iter (xb2 a (↑a.length:Int)) (1,(xkG a).fst,(xkG a).snd)
def xkE (a:LA):=(xkF a).getD (0,[])
def xfC (a:LA):=(xkE a).snd
def xlS {T:Type} (a:LA) (δ:T) (κ:List UInt8->T):T:=br (decide (0<(↑a.length:Int))) (br (decide (0<(↑a.length:Int))) (br (decide (0<a.length)&&((a.getD 0 .top).cells.length==3&&xIS [Sh.int .i64,Sh.int .i64,Sh.str] (a.getD 0 .top).cells 0)) (br (decide ((-9223372036854775808)<=xbU a)&&decide (xbU a<=9223372036854775807)) (br ((xar (Lib.itoa (xbU a))).isSome) (br ((xkM a).isSome) (br ((xkK a).isSome) (br ((xkH a).isSome) (br ((xkF a).isSome) (br (decide ((xkE a).fst=(xfC a).length)&&isBytes (xfC a)&&decide ((xfC a).length≠0)) (κ (strOf (xfC a))) δ) δ) δ) δ) δ) δ) δ) δ) δ) (κ ([]))
def xgn (a:LA):=xlS a none some
def xAh:EO:=xAg.f Tryz.func112 37 0 [] [(6,xfB.lp),(3,xmH.lp)] (lks (lkC xmH.ok (lkC xfB.ok lkN))) (u1 (uL 3)) (fun (a,_) _=>xlS a) (fun _ p=>AV.str p) []
def xfm (b:Int) (a:LA):=((a.getD (0+b.toNat) .top).cells.getD 0 .top).toInt
def xlM (d:Int) (c:Nat) (b a:LA):=((xai (Lib.itoa (xfm d b)) c a).getD (0,0,[])).snd
def xlL (d:Int) (c:Nat) (b a:LA):=xce 32 (xlM d c b a).fst (xlM d c b a).snd
def xlK (d:Int) (c:Nat) (b a:LA):=(xlL d c b a).getD (0,[])
def xm0 {T:Type} (k:LA) (l j:Int) (e:Nat) (i c:Int) (d:Nat) (f g:Int) (h:List UInt8) (a b:LA) (δ:T) (κl:(Int×Nat×Int×Int×List UInt8×LA×LA)->T) (κr:(Nat×Int×Int×List UInt8×LA)->T):T:=br (decide (c<i)) (br (decide (0<=c)&&decide (c<(↑e:Int))) (br (decide (0+c.toNat<a.length)&&xIL (Sh.int .i64) ((a.getD (0+c.toNat) .top).cells.getD 0 .top)) (br (decide ((-9223372036854775808)<=xfm c a)&&decide (xfm c a<=9223372036854775807)) (br ((xai (Lib.itoa (xfm c a)) d b).isSome) (br ((xlL c d a b).isSome) (κl (i64.wrap (c+1),(xlK c d a b).fst,f,g,h,a,(xlK c d a b).snd)) δ) δ) δ) δ) δ) (κr (d,f,g,h,b))
def xgR (k:LA) (l e:Int) (c:Nat) (f:Int):StT (Int×Nat×Int×Int×List UInt8×LA×LA) (Nat×Int×Int×List UInt8×LA):=fun (g,d,h,i,j,b,a)=>xm0 k l e c f g d h i j b a none inL inR
def xfl:=xAh.l 37 0 [] [] Tryz.f33 1 lk0 [3,5,8,9,10,21,22,23] [3,5,8,9,10] [] (q8 (xJI 0 0 0 0) (xJI 1 0 0 0) (qL 3) qI qI (xJH 2 0 0) qI qI) (q4 (xJK 0 2 99 false false (q1 (xJJ (q2 (xJI 0 0 0 0) (xJH 3 0 0))))) (qB 0 3 64 (q1 (xJJ (q3 qI qI pStr)))) (qB 0 1 3 xJz) (qB 0 1 5 xJz)) (fun (_,_,k,m,e,c,f,g,_) (((_,d,_),_),((h,i,j,_),_),b,a,_)=>(xgR k m e c f,(g,d,h,i,j,b,a),fun p=>(.leaf (.exit 2) [AV.own 0 0 0 0,AV.own 1 0 0 0,AV.list 3 k,AV.int .i64 m,AV.int .i64 e] [⟨0,2,99,[AV.agg [AV.own 0 0 0 0,AV.osl 2 0 0 p.1]],false,false⟩,bF 0 3 64 [AV.agg [AV.int .i64 p.2.1,AV.int .i64 p.2.2.1,AV.str p.2.2.2.1]],bF 0 1 5 p.2.2.2.2]))) (0,0,0,[],[]) fun (_,_,k,m,e,c,f,_,_) _ (g,d,h,i,j,b,a)=>((((),(),k,m,e,c,f,g,()),((((),d,()),()),((h,i,j,()),()),b,a,())),xm0 k m e c f g d h i j b a none)
def xlJ (b:LA) (e a:Int) (d:Nat) (c:LA):=Iter (xgR b e a 3 3) (0,d,(gC b a 0).toInt,(gC b a 1).toInt,(gC b a 2).toStr,[AV.int .i64 (gC b a 0).toInt,AV.int .i64 (gC b a 1).toInt,AV.int .i64 (↑(gC b a 2).toStr.length:Int)],c)
def xlI (d:LA) (e c:Int) (b:Nat) (a:LA):=(xlJ d e c b a).getD (0,0,0,[],[])
def xlH (d:LA) (e c:Int) (b:Nat) (a:LA):=(xlI d e c b a).snd.snd.snd
def xlG (d:LA) (e c:Int) (b:Nat) (a:LA):=xai (xlH d e c b a).fst (xlI d e c b a).fst (xlH d e c b a).snd
def xlF (d:LA) (e c:Int) (b:Nat) (a:LA):=((xlG d e c b a).getD (0,0,[])).snd
def xmx {T:Type} (d:LA) (e b:Int) (c:Nat) (a:LA) (δ:T) (κl:(Int×Nat×LA)->T) (κr:(Nat×LA)->T):T:=br (decide (b<e)) (br (ixI d b) (br (ixT d b 3 [Sh.int .i64,Sh.int .i64,Sh.str] 0) (br ((xlJ d e b c a).isSome) (br ((xlG d e b c a).isSome) (κl (i64.wrap (b+1),(xlF d e b c a).fst,(xlF d e b c a).snd)) δ) δ) δ) δ) (κr (c,a))
def xkz (d:LA) (e:Int):StT (Int×Nat×LA) (Nat×LA):=fun (c,b,a)=>xmx d e c b a none inL inR
def xlE:=xAh.l 37 0 [] [(6,xfl.lp)] Tryz.f33 0 (lk1 xfl.ok) [3,8,9,10] [3] [] (q4 (xJI 0 0 0 0) (qL 3) qI qI) (q2 (xJK 0 2 99 false false (q1 (xJJ (q2 (xJI 0 0 0 0) (xJH 1 0 0))))) (qB 0 1 5 xJz)) (fun (_,d,e,c,_) (((_,b,_),_),a,_)=>(xkz d e,(c,b,a),fun p=>(.leaf (.exit 0) [AV.own 0 0 0 0] [⟨0,2,99,[AV.agg [AV.own 0 0 0 0,AV.osl 1 0 0 p.1]],false,false⟩,bF 0 1 5 p.2]))) (0,[]) fun (_,d,e,_,_) _ (c,b,a)=>((((),d,e,c,()),((((),b,()),()),a,())),xmx d e c b a none)
def xcm (a:LA):=((a.getD 0 .top).cells.getD 0 .top).toInt
def xoZ (a:LA):=xdB 32 ((xar (Lib.itoa (xcm a))).getD (0,0,[])).snd.fst ((xar (Lib.itoa (xcm a))).getD (0,0,[])).snd.snd
def xoY (a:LA):=(xoZ a).getD (0,[])
def xoX (a:LA):=Iter (xgR a (↑a.length:Int) 0 3 3) (1,(xoY a).fst,xcm a,((a.getD 0 .top).cells.getD 1 .top).toInt,((a.getD 0 .top).cells.getD 2 .top).toStr,[AV.int .i64 (xcm a),AV.int .i64 ((a.getD 0 .top).cells.getD 1 .top).toInt,AV.int .i64 (↑((a.getD 0 .top).cells.getD 2 .top).toStr.length:Int)],(xoY a).snd)
def xoW (a:LA):=(xoX a).getD (0,0,0,[],[])
def xoV (a:LA):=(xoW a).snd.snd.snd
def xoU (a:LA):=xai (xoV a).fst (xoW a).fst (xoV a).snd
def xoT (a:LA):=((xoU a).getD (0,0,[])).snd
def xoS (a:LA):=Iter (xkz a (↑a.length:Int)) (1,(xoT a).fst,(xoT a).snd)
def xoR (a:LA):=(xoS a).getD (0,[])
def xhr (a:LA):=(xoR a).snd
def xpw {T:Type} (a:LA) (δ:T) (κ:List UInt8->T):T:=br (decide (0<(↑a.length:Int))) (br (decide (0<(↑a.length:Int))) (br (decide (0<a.length)&&((a.getD 0 .top).cells.length==3&&xIS [Sh.int .i64,Sh.int .i64,Sh.str] (a.getD 0 .top).cells 0)) (br (decide ((-9223372036854775808)<=xcm a)&&decide (xcm a<=9223372036854775807)) (br ((xar (Lib.itoa (xcm a))).isSome) (br ((xoZ a).isSome) (br ((xoX a).isSome) (br ((xoU a).isSome) (br ((xoS a).isSome) (br (decide ((xoR a).fst=(xhr a).length)&&isBytes (xhr a)&&decide ((xhr a).length≠0)) (κ (strOf (xhr a))) δ) δ) δ) δ) δ) δ) δ) δ) δ) (κ ([]))
def xfA (a:LA):=xpw a none some
def xGV:EO:=xAh.f Tryz.func33 37 0 [] [(6,xfl.lp),(3,xlE.lp)] (lks (lkC xlE.ok (lkC xfl.ok lkN))) (u1 (uL 3)) (fun (a,_) _=>xpw a) (fun _ p=>AV.str p) []
def xgS (x:Int):Bool:=((x != x))
def xza {T:Type} (x:Int) (δ:T) (κ:Bool->T):T:=κ (x != x)
def xGW:EO:=xGV.fT Tryz.func173 6 0 [] [] lk0 (fun (x,_)=>xza x none) (u1 uI) (fun (x,_)=>xgS x) (fun _ p=>(AV.bool p))
def xf5 (x y:Int):Int:=(br (xgS x) (br (xgS y) ((0)) (((-1)))) (br (xgS y) ((1)) (br (decide (x<y)) (((-1))) (br (decide (x>y)) ((1)) ((0))))))
def xv3 {T:Type} (x y:Int) (δ:T) (κ:Int->T):T:=br (xgS x) (br (xgS y) (κ (0)) (κ ((-1)))) (br (xgS y) (κ (1)) (br (decide (x<y)) (κ ((-1))) (br (decide (x>y)) (κ (1)) (κ (0)))))
def xAi:EO:=xGW.fT Tryz.func147 20 0 [] [] lk0 (fun (x,y,_)=>xv3 x y none) (u2 uI uI) (fun (x,y,_)=>xf5 x y) (fun _ p=>(AV.int .i64 p))
def xid:Env:=xAi.E.fn 18 0 (lsOf []) (xI8 [])
theorem xwQ:xIN P0 (xJt.at 0) xid:=xAi.ok.fn
theorem xtv:LoOk P0 (xJt.at xid.pin) xid (Tryz.f146.body.getD .skip):=xn9 (ls:=[xIR Tryz.f146 0]) (by kernel_rfl) (fun l a lp b=>by
 simp only [zB,List.not_mem_nil,or_false] at a;rcases a with rfl
 . rw [show xid.lp (xI0 (xIR Tryz.f146 0))=none by kernel_rfl] at b
   simp at b)
def xnZ (a b c:Int):Int:=(br (a != 0) ((a)) (br (b != 0) ((b)) (br (c != 0) ((c)) ((0)))))
def xtw (a b c:Int):Bool:=true
def xwR {T:Type} (a b c:Int) (δ:T) (κ:Int->T):T:=br (a != 0) (κ (a)) (br (b != 0) (κ (b)) (br (c != 0) (κ (c)) (κ (0))))
theorem xDg (a b c:Int):Pre (xtw a b c) (XF P0 xid Tryz.f146 (Tryz.f146.body.getD .skip) [AV.list 1 [AV.int .i64 a,AV.int .i64 b,AV.int .i64 c]]) (AV.int .i64 (xnZ a b c)):=by
 have h:XF P0 xid Tryz.f146 (Tryz.f146.body.getD .skip) [AV.list 1 [AV.int .i64 a,AV.int .i64 b,AV.int .i64 c]]=xwR a b c none (fun (p:Int)=>some ((AV.int .i64 p):AV)):=by kernel_rfl
 rw [h];unfold xnZ xtw xwR;repeat' (first|exact Pre.none|exact Pre.tt rfl|exact Pre.some rfl|refine Pre.l ?_|refine Pre.r ?_|refine Pre.br (f:=fun (p:Int)=>((AV.int .i64 p):AV)) ?_ ?_|refine Pre.brt (f:=fun (p:Int)=>((AV.int .i64 p):AV)) ?_ ?_)
def xDf:LA->Option (Bool×AV):=ocOf (xJv (xJL 1 (xJu (pInt .i64) (xJu (pInt .i64) (xJu (pInt .i64) xJw)))) xJy) fun ((a,(b,(c,_))),_)=>(true,(AV.int .i64 (xnZ a b c)))
theorem xDe:OcOk P0 xJt 146 (xDf):=xiX fun e h f=>by
 obtain ⟨⟨a,⟨b,⟨c,_⟩⟩⟩,_⟩:=e;obtain ⟨g,d⟩:=Prod.mk.inj f;refine xj6 (p:=xid.pin) (xlU xIW (xIX P0 _) rfl xwQ Tryz.func146 rfl (by kernel_rfl) xtv ((Pre.get (xDg _ _ _) rfl).trans ?_))
 exact congrArg some d
def xGX:EO:=xAi.w xDe
def xaT (a b:Int) (c:List UInt8) (d e:Int) (f:List UInt8):Int:=((xnZ (xf5 a d) (xf5 b e) (Lib.compareBytes c f)))
def xui {T:Type} (a b:Int) (c:List UInt8) (d e:Int) (f:List UInt8) (δ:T) (κ:Int->T):T:=κ (xnZ (xf5 a d) (xf5 b e) (Lib.compareBytes c f))
def xEe:EO:=xGX.fT Tryz.func124 22 0 [] [] lk0 (fun ((a,b,c,_),(d,e,f,_),_)=>xui a b c d e f none) (u2 (xJM (u3 uI uI (sEq pStr))) (xJM (u3 uI uI (sEq pStr)))) (fun ((a,b,c,_),(d,e,f,_),_)=>xaT a b c d e f) (fun _ p=>(AV.int .i64 p))
def xbw (c b:LA) (a:Int):=xaT (gC b a 0).toInt (gC b a 1).toInt (gC b a 2).toStr (gC c a 0).toInt (gC c a 1).toInt (gC c a 2).toStr
def xbE {T:Type} (e c b:LA) (d a:Int) (δ:T) (κl:(Int)->T) (κr:(Bool×(Int)×(Unit))->T):T:=br (decide (a<d)) (br (ixI b a) (br (ixT b a 3 [Sh.int .i64,Sh.int .i64,Sh.str] 0) (br (decide (a>=c.length)) (κr (true,(1),())) (br (ixI c a) (br (ixT c a 3 [Sh.int .i64,Sh.int .i64,Sh.str] 0) (br (xbw c b a != 0) (κr (true,(xbw c b a),())) (κl (i64.wrap (a+1)))) δ) δ)) δ) δ) (κr (false,0,()))
def xas (d e a:LA) (b:Int):StT (Int) (Bool×(Int)×(Unit)):=fun (c)=>xbE d e a b c none inL inR
def xiC:=xEe.l 39 0 [] [] Tryz.f123 0 lk0 [0,1,2,11,12,13] [0,1,6] [] (q6 (qL 3) (qL 3) (xI9 124 xJw) (qL 3) qI qI) xJw (fun (d,e,_,a,b,c,_) _=>(xas d e a b,(c),fun p=>(.node p.1 (.leaf .ret [AV.list 3 d,AV.list 3 e,AV.int .i64 p.2.1] []) (.leaf (.exit 0) [AV.list 3 d,AV.list 3 e,.top] [])))) (false,0,()) fun (d,e,_,a,b,_,_) _ (c)=>(((d,e,(),a,b,c,()),()),xbE d e a b c none)
def xhg {T:Type} (a b:LA) (δ:T) (κ:Int->T):T:=br ((Iter (xas a b a (↑a.length:Int)) 0).isSome) (br (((Iter (xas a b a (↑a.length:Int)) 0).getD (false,0,())).fst) (κ (((Iter (xas a b a (↑a.length:Int)) 0).getD (false,0,())).snd.fst)) (br (decide ((↑a.length:Int)<(↑b.length:Int))) (κ ((-1))) (κ (0)))) δ
def xiB (a b:LA):=xhg a b none some
def xGY:EO:=xEe.f Tryz.func123 39 0 [] [(2,xiC.lp)] (lk1 xiC.ok) (u3 (uL 3) (uL 3) (sEq (xI9 (124:FuncId) xJw))) (fun (a,b,_,_) _=>xhg a b) (fun _ p=>AV.int .i64 p) 0
def xlp {T:Type} (a b:LA) (δ:T) (κ:Int->T):T:=br ((xiB a b).isSome) (κ ((xiB a b).getD 0)) δ
def xb0 (a b:LA):=xlp a b none some
def xGZ:EO:=xGY.f Tryz.func99 8 0 [] [] lk0 (u2 (uL 3) (uL 3)) (fun (a,b,_) _=>xlp a b) (fun _ p=>AV.int .i64 p) 0
def xj0 {T:Type} (a c b d:LA) (δ:T) (κ:Int->T):T:=br ((xb0 a b).isSome) (κ ((xb0 a b).getD 0)) δ
def xe0 (c a d b:LA):=xj0 c a d b none some
def xwr:EO:=xGZ.f Tryz.func114 10 0 [] [] lk0 (u2 (xJM (u2 (uL 3) (uL 2))) (xJM (u2 (uL 3) (uL 2)))) (fun ((c,a,_),(d,b,_),_) _=>xj0 c a d b) (fun _ p=>AV.int .i64 p) 0
def xb8 (a:Nat) (j:Int):=decide (0<=i64.wrap (j - 1))&&decide (i64.wrap (j - 1)<(↑a:Int))
def xbm (j:Int):Nat:=0+(i64.wrap (j - 1)).toNat
def xb9 (a:Nat) (j:Int):=decide (0<=j)&&decide (j<(↑a:Int))
def xek (j:Int) (a:LA):=decide (0+j.toNat<a.length)
def xei (j:Int) (a:LA):=xek j a&&((a.getD (0+j.toNat) .top).cells.length==2&&xIS [Sh.list 3,Sh.list 2] (a.getD (0+j.toNat) .top).cells 0)
def xay (j:Int) (a:LA):=(a.getD (xbm j) .top).cells
def xeg (j:Int) (a:LA):=decide (xbm j<a.length)&&((xay j a).length==2&&xIS [Sh.list 3,Sh.list 2] (xay j a) 0)
def xeh (j:Int) (a:LA):=xe0 ((a.getD (0+j.toNat) .top).cells.getD 0 .top).toList ((a.getD (0+j.toNat) .top).cells.getD 1 .top).toList ((xay j a).getD 0 .top).toList ((xay j a).getD 1 .top).toList
def xej (j:Int) (a:LA):=a.set (0+j.toNat) (AV.agg [AV.list 3 ((xay j a).getD 0 .top).toList,AV.list 2 ((xay j a).getD 1 .top).toList])
def xeu {T:Type} (d:Nat) (a b i j:Int) (c:LA) (δ:T) (κl:(Int×LA)->T) (κr:(LA)->T):T:=br (decide (j>a)) (br (xb9 d j) (br (xei j c) (br (xb8 d j) (br (xeg j c) (br ((xeh j c).isSome) (br (decide ((xeh j c).getD 0<0)) (br (xb8 d j) (br (xeg j c) (br (xb9 d j) (br (xei j c) (br (xb9 d j) (br (xek j c) (br (xb8 d j) (br (decide (xbm j<(xej j c).length)) (κl (i64.wrap (j - 1),(xej j c).set (xbm j) (AV.agg [AV.list 3 ((c.getD (0+j.toNat) .top).cells.getD 0 .top).toList,AV.list 2 ((c.getD (0+j.toNat) .top).cells.getD 1 .top).toList]))) δ) δ) δ) δ) δ) δ) δ) δ) (κr (c))) δ) δ) δ) δ) δ) (κr (c))
def xaZ (d:Nat) (a b i:Int):StT (Int×LA) (LA):=fun (j,c)=>xeu d a b i j c none inL inR
def xbl:=xwr.l 53 1 [128] [] Tryz.f157 1 lk0 [0,1,2,3,8,9] [0,1,2,3,8] [] (q6 (xJH 0 0 0) qI qI (xI9 114 xJw) qI qI) (q1 (qB 0 2 128 xJz)) (fun (c,a,b,_,i,j,_) (d,_)=>(xaZ c a b i,(j,d),fun p=>(.leaf (.exit 2) [AV.osl 0 0 0 c,AV.int .i64 a,AV.int .i64 b,AV.func 114 [],AV.int .i64 i] [bF 0 2 128 p]))) [] fun (c,a,b,_,i,_,_) _ (j,d)=>(((c,a,b,(),i,j,()),(d,())),xeu c a b i j d none)
def xet {T:Type} (d:Nat) (a b i:Int) (c:LA) (δ:T) (κl:(Int×LA)->T) (κr:(LA)->T):T:=br (decide (i<b)) (br ((Iter (xaZ d a b i) (i,c)).isSome) (κl (i64.wrap (i+1),(Iter (xaZ d a b i) (i,c)).getD [])) δ) (κr (c))
def xaY (d:Nat) (a b:Int):StT (Int×LA) (LA):=fun (i,c)=>xet d a b i c none inL inR
def xef:=xwr.l 53 1 [128] [(4,xbl.lp)] Tryz.f157 0 (lk1 xbl.ok) [0,1,2,3,8] [] [] (q5 (xJH 0 0 0) qI qI (xI9 114 xJw) qI) (q1 (qB 0 2 128 xJz)) (fun (d,a,b,_,i,_) (c,_)=>(xaY d a b,(i,c),fun p=>(.leaf (.exit 0) [] [bF 0 2 128 p]))) [] fun (d,a,b,_,_,_) _ (i,c)=>(((d,a,b,(),i,()),(c,())),xet d a b i c none)
def xcS {T:Type} (n:Nat) (a b:Int) (c:LA) (δ:T) (κ:LA->T):T:=br ((Iter (xaY n a b) (i64.wrap (a+1),c)).isSome) (κ ((Iter (xaY n a b) (i64.wrap (a+1),c)).getD [])) δ
def xaO (n:Nat) (a b:Int) (c:LA):=xcS n a b c none some
def xws:EO:=xwr.fM Tryz.func157 53 1 [128] [(4,xbl.lp),(1,xef.lp)] (lks (lkC xef.ok (lkC xbl.ok lkN))) (u4 (sEq (xJH 0 0 0)) uI uI (sEq (xI9 (114:FuncId) xJw))) (q1 (qB 0 2 128 xJz)) (fun (n,a,b,_,_) (c,_) _=>xcS n a b c) (fun _ _ p=>(AV.tuple [],([bF 0 2 128 p]:List Box))) []
def xdV {T:Type} (d:Nat) (n e a b:Int) (c:LA) (δ:T) (κl:(Int×Int×LA)->T) (κr:(Int×LA)->T):T:=br (decide (b<=n)) (br ((xaO d a b c).isSome) (κl (b,i64.wrap (b+e),(xaO d a b c).getD [])) δ) (κr (a,c))
def xa8 (e:Nat) (n c:Int):StT (Int×Int×LA) (Int×LA):=fun (a,b,d)=>xdV e n c a b d none inL inR
def xcc:=xws.l 63 1 [128] [] Tryz.f139 0 lk0 [0,1,2,6,7,8] [0,1,2,6,7] [] (q6 (xJH 0 0 0) qI (xI9 114 xJw) qI qI qI) (q1 (qB 0 2 128 xJz)) (fun (d,n,_,c,a,b,_) (e,_)=>(xa8 d n c,(a,b,e),fun p=>(.leaf (.exit 0) [AV.osl 0 0 0 d,AV.int .i64 n,AV.func 114 [],AV.int .i64 c,AV.int .i64 p.1] [bF 0 2 128 p.2]))) (0,[]) fun (d,n,_,c,_,_,_) _ (a,b,e)=>(((d,n,(),c,a,b,()),(e,())),xdV d n c a b e none)
def xgV {T:Type} (d:Nat) (n e a b:Int) (c:LA) (δ:T) (κl:(Int×Int×LA)->T) (κr:(Int×LA)->T):T:=br (decide (b<=n)) (br (decide (0+d<=c.length)&&true) δ δ) (κr (a,c))
def xfU (e:Nat) (n c:Int):StT (Int×Int×LA) (Int×LA):=fun (a,b,d)=>xgV e n c a b d none inL inR
def xcd:=xws.l 63 1 [128] [(2,xcc.lp)] Tryz.f139 2 lk0 [0,1,2,6,7,8] [0,1,2,6,7] [] (q6 (xJH 0 0 0) qI (xI9 114 xJw) qI qI qI) (q1 (qB 0 2 128 xJz)) (fun (d,n,_,c,a,b,_) (e,_)=>(xfU d n c,(a,b,e),fun p=>(.leaf (.exit 4) [AV.osl 0 0 0 d,AV.int .i64 n,AV.func 114 [],AV.int .i64 c,AV.int .i64 p.1] [bF 0 2 128 p.2]))) (0,[]) fun (d,n,_,c,_,_,_) _ (a,b,e)=>(((d,n,(),c,a,b,()),(e,())),xgV d n c a b e none)
def xgB (c:Nat) (n a:Int) (b:LA):=Iter (xfU c n a) (0,i64.wrap (2*a),b)
def xgA (c:Nat) (n a:Int) (b:LA):=(xgB c n a b).getD (0,[])
def xgz (c:Nat) (n a:Int) (b:LA):=(xgA c n a b).snd
def xdW {T:Type} (c:Nat) (n a:Int) (b:LA) (δ:T) (κl:(Int×LA)->T) (κr:(LA)->T):T:=br (decide (a<n)) (br ((xgB c n a b).isSome) (br (decide (i64.wrap ((xgA c n a b).fst+a)<n)) (br (decide (0+c<=(xgz c n a b).length)&&true) δ δ) (κl (i64.wrap (a*2),xgz c n a b))) δ) (κr (b))
def xbP (c:Nat) (n:Int):StT (Int×LA) (LA):=fun (a,b)=>xdW c n a b none inL inR
def xgy:=xws.l 63 1 [128] [(2,xcc.lp),(9,xcd.lp)] Tryz.f139 1 (lk1 xcd.ok) [0,1,2,6] [] [] (q4 (xJH 0 0 0) qI (xI9 114 xJw) qI) (q1 (qB 0 2 128 xJz)) (fun (c,n,_,a,_) (b,_)=>(xbP c n,(a,b),fun p=>(.leaf (.exit 2) [] [bF 0 2 128 p]))) [] fun (c,n,_,_,_) _ (a,b)=>(((c,n,(),a,()),(b,())),xdW c n a b none)
def xeT (n:Nat) (k:Int) (a:LA):=(Iter (xa8 n k 20) (0,20,a)).getD (0,[])
def xeS (n:Nat) (k:Int) (a:LA):=xaO n (xeT n k a).fst k (xeT n k a).snd
def xeR (n:Nat) (k:Int) (a:LA):=Iter (xbP n k) (20,(xeS n k a).getD [])
def xfc {T:Type} (n:Nat) (k:Int) (a:LA) (δ:T) (κ:LA->T):T:=br ((Iter (xa8 n k 20) (0,20,a)).isSome) (br ((xeS n k a).isSome) (br ((xeR n k a).isSome) (κ ((xeR n k a).getD [])) δ) δ) δ
def xdK (n:Nat) (k:Int) (a:LA):=xfc n k a none some
def xGx:EO:=xws.fM Tryz.func139 63 1 [128] [(2,xcc.lp),(9,xcd.lp),(7,xgy.lp)] (lks (lkC xcc.ok (lkC xgy.ok (lkC xcd.ok lkN)))) (u3 (sEq (xJH 0 0 0)) uI (sEq (xI9 (114:FuncId) xJw))) (q1 (qB 0 2 128 xJz)) (fun (n,k,_,_) (a,_) _=>xfc n k a) (fun _ _ p=>(AV.tuple [],([bF 0 2 128 p]:List Box))) []
def xeN {T:Type} (n:Nat) (a:LA) (δ:T) (κ:LA->T):T:=br ((xdK n (↑n:Int) a).isSome) (κ ((xdK n (↑n:Int) a).getD [])) δ
def xft (n:Nat) (a:LA):=xeN n a none some
def xEf:EO:=xGx.fM Tryz.func113 9 1 [128] [] lk0 (u2 (sEq (xJH 0 0 0)) (sEq (xI9 (114:FuncId) xJw))) (q1 (qB 0 2 128 xJz)) (fun (n,_,_) (a,_) _=>xeN n a) (fun _ _ p=>(AV.tuple [],([bF 0 2 128 p]:List Box))) []
def xcV (b:LA) (c:Int) (a:LA):=a++[AV.agg [AV.list 3 (gC b c 0).toList,AV.list 2 []]]
def xa1 (a:Nat):Nat:=0+(↑a:Int).toNat
def xbG (a:LA) (b:Int):=(xgn (gC a b 0).toList).getD []
def xfe (d:LA) (f:Int) (b:Nat) (e:Int) (c a:LA):=decide (xa1 b<(xcV d e a).length)
def xff (d:LA) (e:Int) (a:Nat) (f:Int) (b c:LA):=decide ((↑a:Int)<(↑(a+1):Int))
def xaG (c:LA) (b:Nat) (d:Int) (a:LA):=((xcV c d a).getD (xa1 b) .top).cells
def xey (a:LA) (b:Int):=decide ((xbG a b).length<=4611686018427387904)
def xcW (b:LA) (c:Int) (a:LA):=(xI4 (AV.int .i64 0) a (xbG b c)).toInt
def xfg (c:LA) (b:Nat) (d:Int) (a:LA):=decide (0<=xcW c d a)&&decide (xcW c d a<(↑b:Int))
def xap (c:LA) (b:Nat) (d:Int) (a:LA):=((xaG c b d a).getD 1 .top).toList.length
def xaj (b:LA) (c:Int) (a:LA):Nat:=0+(xcW b c a).toNat
def xew (a:LA) (d:Nat) (b:Int) (c:LA):=((xaG a d b c).getD 1 .top).toList++[AV.agg [AV.int .i64 (gC a b 1).toInt,AV.int .i64 (gC a b 2).toInt]]
def xdm (c:LA) (b:Nat) (d:Int) (a:LA):=(xcV c d a).set (xa1 b) (AV.agg (List.take 1 (xaG c b d a)++[AV.int .i64 (↑(xap c b d a):Int)]++List.drop 2 (xaG c b d a)))
def xfh (c:LA) (d:Int) (a b:LA):=decide (xaj c d a<b.length)
def xaq (c:LA) (d:Int) (a b:LA):=((b.getD (xaj c d a) .top).cells.getD 1 .top).toList.length
def xev (b:LA) (c:Int) (a d:LA):=((d.getD (xaj b c a) .top).cells.getD 1 .top).toList++[AV.agg [AV.int .i64 (gC b c 1).toInt,AV.int .i64 (gC b c 2).toInt]]
def xcq (c:LA) (a:Nat) (d:Int) (b:LA):=((xdm c a d b).getD (xa1 a) .top).cells
def xdn (c:LA) (d:Int) (a b:LA):=b.set (xaj c d a) (AV.agg (List.take 1 (b.getD (xaj c d a) .top).cells++[AV.int .i64 (↑(xaq c d a b):Int)]++List.drop 2 (b.getD (xaj c d a) .top).cells))
def xcr (c:LA) (d:Int) (a b:LA):=((xdn c d a b).getD (xaj c d a) .top).cells
def xcI {T:Type} (d:LA) (f:Int) (e:Nat) (c:Int) (b a:LA) (δ:T) (κl:(Nat×Int×LA×LA)->T) (κr:(Nat×LA)->T):T:=br (decide (c<f)) (br (ixI d c) (br (ixT d c 3 [Sh.list 3,Sh.int .i64,Sh.int .i64] 0) (br (!xc2 (gC d c 1).toInt (gC d c 2).toInt) (κl (e,i64.wrap (c+1),b,a)) (br ((xgn (gC d c 0).toList).isSome) (br (xey d c&&xIL (Sh.int .i64) (xI4 (AV.int .i64 0) b (xbG d c))) (br (!xJg b (xbG d c)) (br (decide (b.length<4611686018427387904)&&xey d c) (br (rmB e a 1 48) (br (xff d f e c b a) (br (xfe d f e c b a&&(xJr 2 ((xaG d e c a).getD 1 .top)&&(xaG d e c a).length==2)) (br (xfe d f e c b a&&(xJr 2 ((xaG d e c a).getD 1 .top)&&((xaG d e c a).length==2&&(2*xap d e c a==2*xap d e c a&&(xap d e c a==xap d e c a&&(xap d e c a==xap d e c a&&(decide ((xap d e c a+1)*16<=140737488355328)&&decide (xap d e c a+1<=4611686018427387904)))))))) (br (xff d f e c b a) (br (decide (xa1 e<(xdm d e c a).length)&&((xcq d e c a).length==2&&(xap d e c a+1==(xew d e c a).length&&xJP ((xcq d e c a).getD 1 .top) (xap d e c a+1)))) (κl (e+1,i64.wrap (c+1),xI2 b (xbG d c) (AV.int .i64 (↑e:Int)),(xdm d e c a).set (xa1 e) (AV.agg (List.take 1 (xcq d e c a)++[AV.list 2 (xew d e c a)]++List.drop 2 (xcq d e c a))))) δ) δ) δ) δ) δ) δ) δ) (br (xfg d e c b) (br (xfh d c b a&&(xJr 2 ((a.getD (xaj d c b) .top).cells.getD 1 .top)&&(a.getD (xaj d c b) .top).cells.length==2)) (br (xfh d c b a&&(xJr 2 ((a.getD (xaj d c b) .top).cells.getD 1 .top)&&((a.getD (xaj d c b) .top).cells.length==2&&(2*xaq d c b a==2*xaq d c b a&&(xaq d c b a==xaq d c b a&&(xaq d c b a==xaq d c b a&&(decide ((xaq d c b a+1)*16<=140737488355328)&&decide (xaq d c b a+1<=4611686018427387904)))))))) (br (xfg d e c b) (br (decide (xaj d c b<(xdn d c b a).length)&&((xcr d c b a).length==2&&(xaq d c b a+1==(xev d c b a).length&&xJP ((xcr d c b a).getD 1 .top) (xaq d c b a+1)))) (κl (e,i64.wrap (c+1),b,(xdn d c b a).set (xaj d c b) (AV.agg (List.take 1 (xcr d c b a)++[AV.list 2 (xev d c b a)]++List.drop 2 (xcr d c b a))))) δ) δ) δ) δ) δ)) δ) δ)) δ) δ) (κr (e,a))
def xaU (d:LA) (e:Int):StT (Nat×Int×LA×LA) (Nat×LA):=fun (c,f,a,b)=>xcI d e c f a b none inL inR
def xlv:=xEf.l 60 0 [] [] Tryz.f86 0 lk0 [3,4,11,12,13] [4] [(4,2,214884679808)] (q5 (xJI 0 0 0 0) (xJH 1 0 0) (qL 3) qI qI) (q2 (qB 0 2 1208925819615312141615104 xJz) (qB 0 2 214884679808 xJz)) (fun (_,c,d,e,f,_) (a,b,_)=>(xaU d e,(c,f,a,b),fun p=>(.leaf (.exit 0) [AV.osl 0 0 0 p.1] [bF 0 2 214884679808 p.2]))) (0,[]) fun (_,_,d,e,_,_) _ (c,f,a,b)=>((((),c,d,e,f,()),(a,b,())),xcI d e c f a b none)
def xj5 (l:LA):=Iter (xaU l (↑l.length:Int)) (0,0,[],[])
def xj4 (l:LA):=(xj5 l).getD (0,[])
def xgY (l:LA):=(xj4 l).fst
def xj3 (l:LA):=(xj4 l).snd
def xj2 (l:LA):=xft (xgY l) (xj3 l)
def xj1 (l:LA):=(xj2 l).getD []
def xkN {T:Type} (l:LA) (δ:T) (κ:LA->T):T:=br ((xj5 l).isSome) (br (xJh 2 1 (xj3 l)) (br ((xj2 l).isSome) (br (decide (0+xgY l<=(xj1 l).length)&&true) (κ (List.take (xgY l) (List.drop 0 (xj1 l)))) δ) δ) δ) δ
def xht (l:LA):=xkN l none some
def xEg:EO:=xEf.f Tryz.func86 60 0 [] [(4,xlv.lp)] (lk1 xlv.ok) (u1 (uL 3)) (fun (l,_) _=>xkN l) (fun _ p=>AV.list 2 p) []
end Go.Sim.M
end
