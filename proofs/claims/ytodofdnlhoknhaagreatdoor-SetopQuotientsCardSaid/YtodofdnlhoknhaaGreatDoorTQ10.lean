/- Part 10 of the proof of the law. -/
import Derived.Test.YtodofdnlhoknhaaGreatDoorTQ9
import Derived.WalkKit
import Derived.BigCall
import Derived.Lib.Strings
import Derived.Lib.Slices
import Derived.Lib.Walk
import Derived.Lib.Builder
import Derived.Lib.UnsafeStr
import Derived.Laws.Externs
import Derived.Laws.IdiomCopy
import Derived.Laws.BitsLemmas
import Derived.RegionTactic
set_option linter.defProp false
set_option linter.unusedVariables false
set_option linter.unusedSimpArgs false
set_option linter.unnecessarySimpa false
noncomputable section
namespace Go.Proofs
open Go.RowKit Go.Lib
def Tryz.lies_builder(n:Nat)(hn:1<=n):liesAt Tryz.prog Tryz.prog.depth 111 n 0 111 1:=by(have hc:Tryz.prog.cellsOf 111=2:=by kernel_rfl);have hd:Tryz.prog.depth=(2*(Tryz.prog.types.size+Made.depth)+1)+1:=rfl;generalize Tryz.prog=P at *;rw[hd];simp only[liesAt,Bool.or_eq_true];left;rw[hd];simp[rowAt,hc,hn,sameLayout]
set_option maxHeartbeats 2000000 in
set_option maxRecDepth 100000 in
def Tryz.copyCheck_used(b:Nat)(w:World)(h0:w.cell? ⟨b,0,none⟩=some (.pointer (some ⟨b,0,none⟩))):Calls Tryz.prog 130 #[.pointer (some ⟨b,0,none⟩)] w λ e w'=>e=.returned (.tuple #[])/\w'=w:=by(have hsz:(Tryz.prog.info? 111).map (·.size)=some 2:=by kernel_rfl);(obtain⟨j,hj,_⟩:=Option.map_eq_some_iff.1 hsz;have tp:Tryz.prog.underlying 108=some (.pointer 111):=by kernel_rfl);go_enter Tryz.func130,Tryz.ntmps130;go_wp2;rw[Lib.run_neq_ptr_same w _ tp hj];go_wp2;go_end0;exact⟨rfl,rfl⟩
set_option maxHeartbeats 2000000 in
set_option maxRecDepth 100000 in
def Tryz.copyCheck_fresh(b n:Nat)(hn:1<=n)(w:World)(h0:w.cell? ⟨b,0,none⟩=some (.pointer none))(J:w.shape? b=some (111,n*2))(Q:w.frozen? ⟨b,0,none⟩=false):Calls Tryz.prog 130 #[.pointer (some ⟨b,0,none⟩)] w λ e w'=>e=.returned (.tuple #[])/\w'=w.setCell ⟨b,0,none⟩ (.pointer (some ⟨b,0,none⟩)):=by
 have hsz:(Tryz.prog.info? 111).map (·.size)=some 2:=by kernel_rfl
 obtain⟨j,hj,O⟩:=Option.map_eq_some_iff.1 hsz;have hc:Tryz.prog.cellsOf 111=2:=by kernel_rfl
 have tp:Tryz.prog.underlying 108=some (.pointer 111):=by kernel_rfl
 have tu:Tryz.prog.underlying 171=some .unsafePointer:=by kernel_rfl
 have q:liesAt Tryz.prog Tryz.prog.depth 111 (n*2 / Tryz.prog.cellsOf 111) 0 111 1:=by rw[hc,Nat.mul_div_cancel _ (by decide)];exact Tryz.lies_builder n hn
 have c1:=Lib.run_to_unsafe w ⟨b,0,none⟩ tp tu hj (by rw[O];decide) J (show 0<n*2 by omega);have c2:=Lib.run_from_unsafe w ⟨b,0,none⟩ tu tp hj J q;clear q;go_enter Tryz.func130,Tryz.ntmps130;go_wp2;rw[run_callFunc_extern Tryz.func148 (by kernel_rfl) (by kernel_rfl) (by kernel_rfl) (e:=Extern.AbiNoEscape.same) (by kernel_rfl)];rw[Lib.run_noEscape];simp only[Result.andThen];rw[Oper.upon_value];go_wp2;go_end0;exact⟨rfl,rfl⟩
set_option maxHeartbeats 2000000 in
set_option maxRecDepth 100000 in
def Tryz.builder_string(b g cap:Nat)(l:List UInt8)(cur:Array Value)(w:World)(hb:w.cell? ⟨b,1,none⟩=some (.slice (some ⟨g,0,none⟩) l.length cap))(hg:w.heap[g]?=some (.cells cur 5 (0,0)))(q:∀j x,l[j]?=some x->w.cell? ((⟨g,0,none⟩:Addr).add j)=some (.int .u8 x.toNat))(V:l.length<=cur.size)(hcap:cap≠0)(h0:l≠[])(J:l.length<=9223372036854775807):Calls Tryz.prog 97 #[.pointer (some ⟨b,0,none⟩)] w λ e w'=>e=.returned (.string ⟨l.toArray⟩)/\w'=w.drew.freeze ⟨g,0,none⟩ l.length:=by(have c1:w.drew.cell? ⟨b,1,none⟩=some (.slice (some ⟨g,0,none⟩) l.length cap):=hb;have Q:Tryz.prog.underlying 155=some (.pointer 5):=by kernel_rfl);(have O:Tryz.prog.cellsOf 5=1:=by kernel_rfl);have Y:(Builtin.unsafeSliceData_ #[109] 155 #[.slice (some ⟨g,0,none⟩) l.length cap]).run Tryz.prog w.drew=.ok (.pointer (some ⟨g,0,none⟩)) w.drew:=Lib.run_unsafeSliceData_row _ _ _ _ _ _ hcap;have W:(Builtin.unsafeString_ #[155,3] 9 #[.pointer (some ⟨g,0,none⟩),.int .i64 l.length]).run Tryz.prog w.drew=.ok (.string ⟨l.toArray⟩) (w.drew.freeze ⟨g,0,none⟩ l.length):=Lib.run_unsafeString_row w.drew 155 3 9 5 Q O g cur.size (by have hg':w.drew.heap[g]?=some (.cells cur 5 (0,0)):=hg;simp[World.shape?,hg']) l h0 V J q;clear q;go_enter Tryz.func97,Tryz.ntmps97;go_wp2;go_region;all_goals (go_wp2;go_ret;exact⟨rfl,rfl⟩)
set_option maxHeartbeats 2000000 in
set_option maxRecDepth 100000 in
def Tryz.builder_string_nil(b:Nat)(w:World)(hb:w.cell? ⟨b,1,none⟩=some (.slice none 0 0)):Calls Tryz.prog 97 #[.pointer (some ⟨b,0,none⟩)] w λ e w'=>e=.returned (.string ⟨#[]⟩)/\w'=w.drew:=by have c1:w.drew.cell? ⟨b,1,none⟩=some (.slice none 0 0):=hb;have J:(Builtin.unsafeSliceData_ #[109] 155 #[.slice none 0 0]).run Tryz.prog w.drew=.ok (.pointer none) w.drew:=rfl;have q:=Lib.run_unsafeString_none (P:=Tryz.prog) w.drew 155 3 9 none;go_enter Tryz.func97,Tryz.ntmps97;go_wp2;go_region;all_goals (go_wp2;go_ret;exact⟨rfl,rfl⟩)
end Go.Proofs
end
noncomputable section
namespace Go.Sim
open Go.RowKit Go.Proofs
def M.isByte:AV->Bool|.int .u8 n=>decide (0<=n)&&decide (n<256)|_=>false
def M.isBytes(xs:List AV):Bool:=xs.all M.isByte
def M.strOf(xs:List AV):List UInt8:=xs.map λ x=>UInt8.ofNat x.toInt.toNat
def xr0(s:List UInt8):M.strOf (M.byteAVs s)=s:=by unfold M.strOf M.byteAVs;rw[List.map_map];(conv=>rhs;rw[<-List.map_id s]);exact List.map_congr_left λ u _=>by simp[AV.toInt]
def xp0(s:List UInt8):M.isBytes (M.byteAVs s):=by unfold M.isBytes M.byteAVs;rw[zI];intro x hx;obtain⟨u,_,rfl⟩:=zK.1 hx;have:=u.toNat_lt;simp only[M.isByte,zf,zl];omega
def xqK(s t:List UInt8):M.byteAVs (s++t)=M.byteAVs s++M.byteAVs t:=by simp[M.byteAVs]
def xfZ(s:List UInt8):(M.byteAVs s).length=s.length:=by simp[M.byteAVs]
def xCa{x:AV}(h:M.isByte x):∃u:UInt8,x=.int .u8 u.toNat:=by unfold M.isByte at h;split at h;(rename_i n;simp only[zf,zl]at h;refine⟨UInt8.ofNat n.toNat,?_⟩;have:(UInt8.ofNat n.toNat).toNat=n.toNat:=by rw[UInt8.toNat_ofNat',Nat.mod_eq_of_lt (by omega)]);rw[this];congr 1;omega;simp at h
def xy2(w:World)(g n k:Nat)(h:k≠g):(w.freeze ⟨g,0,none⟩ n).heap[k]?=w.heap[k]?:=by unfold World.freeze;split;rfl;simp[Array.getElem?_modify,Ne.symm h]
def xAh(w:World)(g n:Nat):(w.freeze ⟨g,0,none⟩ n).heap.size=w.heap.size:=by unfold World.freeze;split;rfl;simp
variable {H:List Box}
def xDJ{w w':World}{A:Nat->Prop}{M:Id->Option MB}{B:Nat}(hR:HR w A M B H){id:Nat}{m:MB}{bx:Box}(J:0<m.cap)(hm:M (.b id)=some m)(hb:H[id]?=some bx)(Z:isC bx.ty=false)(ab:bx.frz=false)(Q:BoxAt w A M B (.b id) m bx)(v:Nat)(hv:m.ver<v)(sz:Nat)(ty:TypeId)(W:isC ty=false)(hs:w'.heap.size=w.heap.size)(hw:∀b,b≠m.b->w'.heap[b]?=w.heap[b]?):HR w' A (MSet M (.b id) ⟨m.b,v,sz,0,ty⟩) B (H.set id ⟨v,sz,ty,[],false,true⟩)/\Mv w A M w' A (MSet M (.b id) ⟨m.b,v,sz,0,ty⟩):=by
 have aa:A m.b:=(Q.guard J).1 ab;have O:MExt M (MSet M (.b id) ⟨m.b,v,sz,0,ty⟩):=xni hm (.inr hv);have hw':∀b,b<w.heap.size->¬ A b->w'.heap[b]?=w.heap[b]?:=λ b _ hA=>hw b λ e=>hA (e▸aa);have hc:∀{p:Prop},0<(0:Nat)->p:=λ h=>absurd h (by omega);have q:∀i m1,MSet M (.b id) ⟨m.b,v,sz,0,ty⟩ i=some m1->0<m1.cap->i≠.b id/\M i=some m1:=λ i m1 h1 h0=>by by_cases hi:i=.b id;subst hi;simp[MSet]at h1;subst h1;exact absurd h0 (by simp);exact⟨hi,by simpa[MSet,hi]using h1⟩
 refine⟨⟨λ i m1 h1=>?_,λ i i' m1 m2 h1 h2 c1 c2 he=>hR.inj i i' m1 m2 (q i m1 h1 c1).2 (q i' m2 h2 c2).2 c1 c2 he,λ b hb=>by rw[hs];exact hR.lt b hb⟩,⟨by omega,hw',λ _ _ h=>h,λ _ _ h _=>h,O,⟨λ b _ hb=>hw b λ e=>hb (.b id) m hm J e.symm,λ i m1 h1 h0=>.inl ⟨i,m1,(q i m1 h1 h0).2,h0,rfl⟩⟩⟩⟩;by_cases hi:i=.b id;subst hi;have:m1=⟨m.b,v,sz,0,ty⟩:=by simp[MSet]at h1;exact h1.symm
 subst this;exact⟨⟨v,sz,ty,[],false,true⟩,by rw[xbb,zL (xcs hb)],rfl,rfl,xbu W,zQ _,zQ _,λ x hx=>by simp at hx,hc,hc,hc,hc⟩;have V:M i=some m1:=by simpa[MSet,hi]using h1
 obtain⟨Y,g1,g2⟩:=hR.box i m1 V;exact⟨Y,by rw[xcd hb Z W hi];exact g1,g2.mono (λ h0=>hw _ λ e=>hi (hR.inj i (.b id) m1 m V hm h0 J e)) hw' (by omega) (λ _ _ h=>h) g2.guard O⟩
def xnF{w:World}{A:Nat->Prop}{M:Id->Option MB}{B:Nat}(hR:HR w A M B H){v:Value}{a x:AV}{ty:TypeId}{frz pm:Bool}(J:isC ty=false)(hv:Rel w A M v (.own (.b 0) 0 0 0))(hb:H[0]?=some ⟨0,2,ty,[.agg [a,x]],frz,pm⟩):∃m c,M (.b 0)=some m/\BoxAt w A M B (.b 0) m ⟨0,2,ty,[.agg [a,x]],frz,pm⟩/\1<=m.cap/\v=.pointer (some ⟨m.b,0,none⟩)/\w.heap[m.b]?=some (.cells c ty (0,0))/\c.size=m.cap*2/\m.sz=2/\Rel w A (MP M pm) (c.getD 0 undef) a/\Rel w A (MP M pm) (c.getD 1 undef) x/\w.cell? ⟨m.b,0,none⟩=some (c.getD 0 undef)/\w.cell? ⟨m.b,1,none⟩=some (c.getD 1 undef):=by
 obtain⟨m,hm,q,hp⟩:=xmu hR hv (xmn hb J);have hcap:1<=m.cap:=q.fits;have hsz:m.sz=2:=q.sz.symm;obtain⟨c,h1,h2,h3⟩:=q.plainCells J (by omega);rw[hsz]at h2;have r0:=h3 0 0 (by simp) (by omega);have r1:=h3 0 1 (by simp) (by omega);have h1:w.heap[m.b]?=some (.cells c ty (0,0)):=h1;have e0:w.cell? ⟨m.b,0,none⟩=some (c.getD 0 undef):=by(have:0<c.size:=by omega);simp[World.cell?,h1,this]
 have e1:w.cell? ⟨m.b,1,none⟩=some (c.getD 1 undef):=by(have:1<c.size:=by omega);simp[World.cell?,h1,this]
 refine⟨m,c,hm,q,hcap,by simpa using hp,h1,h2,hsz,by simpa[AV.cells]using r0,by simpa[AV.cells]using r1,e0,e1⟩
def xqh:List AV->List Box->Option (Bool×AV×List Box)|[.own (.b 0) 0 0 0],⟨0,2,ty,[.agg [.nilptr,x]],false,pm⟩::r=>(match Nat.beq ty 111 with|true=>some (true,.tuple [],⟨0,2,ty,[.agg [.own (.b 0) 0 0 0,x]],false,false⟩::r)|false=>none)|[.own (.b 0) 0 0 0],⟨0,2,ty,[.agg [.own (.b 0) 0 0 0,x]],false,pm⟩::r=>(match Nat.beq ty 111 with|true=>some (true,.tuple [],⟨0,2,ty,[.agg [.own (.b 0) 0 0 0,x]],false,pm⟩::r)|false=>none)|_,_=>none
def xAc:OmOk Tryz.prog xMa 130 xqh:=λ xs H r H' h=>by
 unfold xqh at h;split at h;rename_i ty x pm rest;split at h;case h_2=>simp at h
 rename_i J;have J:=zg J;subst J;simp only[z6,zb,true_and]at h;obtain⟨rfl,rfl⟩:=h;refine⟨xdu Tryz.func130 rfl (by kernel_rfl),λ w0 w A M vs hI hB hR O=>?_⟩;obtain⟨v,rfl,hv⟩:=rc1 O;obtain⟨m,c,hm,q,hcap,rfl,hh,Q,hsz,r0,r1,e0,e1⟩:=xnF hR (by rfl) hv rfl;have hn:c.getD 0 undef=.pointer none:=by revert r0;generalize c.getD 0 undef=z;intro r0;cases r0;rfl
 rw[hn]at e0;refine(Tryz.copyCheck_fresh m.b m.cap hcap w e0 (by simp[World.shape?,hh,Q]) (Lib.frozen_of_heap hh 0)).mono ?_;rintro e w' ⟨rfl,rfl⟩;rw[setCell_eq_setRow w m.b 0 c _ _ _ hh];have aa:x.one:=by have:=q.ok (.agg [.nilptr,x]) (by simp);simp only[AV.okElem,AV.cells,List.all_cons,zf]at this;exact this.2.2.1
 have W:(0:Nat)=m.ver:=q.ver;obtain⟨g1,g2,g3,g4,gt,g5⟩:=xo3 (m':=m) (bx':=⟨0,2,111,[.agg [.own (.b 0) 0 0 0,x]],false,false⟩) hR (by omega) hm rfl q rfl rfl rfl (c':=c.setIfInBounds 0 (.pointer (some ⟨m.b,0,none⟩))) rfl rfl rfl rfl (.inl rfl)
  W (by rw [hsz]) (by have:=q.ty;rw [xbu rfl] at this;exact this) rfl hcap (fun y hy=>by
   simp only [zv] at hy;subst hy;rw [hsz];simp [AV.okElem,AV.cells,aa,show (AV.own (.b 0) 0 0 0).one=true from rfl]) (by rw [hsz];simpa using Q) (fun i j hi hj=>by
   have ab:i=0:=by simpa using hi
   subst ab;rw[hsz]at hj|-;have Z:0<c.size:=by omega
   have ac:1<c.size:=by omega
   match j,hj with
   | 0,_=>
    have:(c.setIfInBounds 0 (.pointer (some ⟨m.b,0,none⟩))).getD (0*2+0) undef=.pointer (some ⟨m.b,0,none⟩):=by simp[Z]
    rw[this];exact .own _ (.b 0) 0 0 0 m hm (by omega) rfl (λ _=>by rw[xkx (q.nomap rfl)];simp)
   | 1,_=>
    have:(c.setIfInBounds 0 (.pointer (some ⟨m.b,0,none⟩))).getD (0*2+1) undef=c.getD 1 undef:=by simp[Array.getElem?_setIfInBounds]
    rw [this];exact r1.unmp)
 exact⟨_,A,_,rfl,hB.trans g4,λ _ _=>Iff.rfl,Ev.refl.step ⟨by simp[World.setRow],g3,λ _ _ h=>h,λ _ _ h _=>h,g2,gt⟩,by simpa using g1,.tuple #[] [] rfl (by simp)⟩;rename_i ty x pm rest;split at h;case h_2=>simp at h
 rename_i J;have J:=zg J;subst J;simp only[z6,zb,true_and]at h;obtain⟨rfl,rfl⟩:=h;refine⟨xdu Tryz.func130 rfl (by kernel_rfl),λ w0 w A M vs hI hB hR O=>?_⟩;obtain⟨v,rfl,hv⟩:=rc1 O;obtain⟨m,c,hm,q,hcap,rfl,hh,Q,hsz,r0,r1,e0,e1⟩:=xnF hR (by rfl) hv rfl;obtain⟨m',V,Y,hp⟩:=xmu hR r0.unmp (xmn (n:=0) (bx:=⟨0,2,111,[.agg [.own (.b 0) 0 0 0,x]],false,pm⟩) rfl rfl);rw[hm]at V;obtain rfl:=(z6 _ _).mp V;rw[hp]at e0;refine(Tryz.copyCheck_used m.b w (by simpa using e0)).mono ?_;rintro e w' ⟨rfl,rfl⟩;exact⟨_,A,M,rfl,hB,λ _ _=>Iff.rfl,Ev.refl,hR,.tuple #[] [] rfl (by simp)⟩;simp at h
def xlm:List AV->List Box->Option (Bool×AV×List Box)|[.own (.b 0) 0 0 0],[⟨0,2,ty,[.agg [a,.osl (.b 1) u 0 n]],false,pm⟩,⟨u',1,ty',bs,false,pm'⟩]=>(match Nat.beq ty 111&&(Nat.beq ty' 5&&Nat.beq u u')with|true=>some ((decide (n=bs.length)&&M.isBytes bs)&&decide (bs.length≠0),.str (M.strOf bs),[⟨0,2,ty,[.agg [a,.osl (.b 1) u 0 n]],false,pm⟩,⟨u+1,1,ty',[],false,true⟩])|false=>none)|[.own (.b 0) 0 0 0],⟨0,2,ty,[.agg [a,.nils]],false,pm⟩::r=>(match Nat.beq ty 111 with|true=>some (true,.str [],⟨0,2,ty,[.agg [a,.nils]],false,pm⟩::r)|false=>none)|_,_=>none
def xtQ:OmOk Tryz.prog xMa 97 xlm:=λ xs H r H' h=>by
 unfold xlm at h;split at h;rename_i ty a u n pm u' am bs ag;split at h;case h_2=>simp at h
 rename_i O;simp only[zf]at O;obtain⟨h1,h2,h3⟩:=O;have h1:=zg h1;have h2:=zg h2;have h3:=zg h3;subst h1 h2 h3;simp only[z6,zb,zf,zl]at h;obtain⟨⟨⟨rfl,af⟩,hne⟩,rfl,rfl⟩:=h;refine⟨xdu Tryz.func97 rfl (by kernel_rfl),λ w0 w A MM vs hI hB hR W=>?_⟩;obtain⟨v,rfl,hv⟩:=rc1 W;obtain⟨m,c,hm,ab,hcap,rfl,hh,ah,hsz,r0,r1,e0,e1⟩:=xnF hR (by rfl) hv rfl;obtain⟨m1,a1,ai,q,aj,ae,ac⟩:=xjO hR r1.unmp (xmn (n:=1) (bx:=⟨u,1,5,bs,false,ag⟩) rfl rfl);have J:0<m1.cap:=by have:=q.fits;simp only at this;omega
 have ha:=ac J;subst ha;obtain⟨c1,k1,k2,k3⟩:=q.plainCells rfl J;have Q:m1.sz=1:=q.sz.symm;have ak:5=m1.ty:=by have:=q.ty;rw[xbu rfl]at this;exact this
 rw[ae]at e1;simp only[Nat.zero_mul,Nat.sub_zero]at e1;have hl:(M.strOf bs).length=bs.length:=by simp[M.strOf]
 have V:∀j,j<bs.length->∃uu:UInt8,bs.getD j .top=.int .u8 uu.toNat/\(M.strOf bs)[j]?=some uu/\w.cell? ⟨m1.b,j,none⟩=some (.int .u8 uu.toNat):=λ j hj=>by have ad:bs.getD j .top∈bs:=xaN hj;obtain⟨uu,hu⟩:=xCa (zI.1 af _ ad);refine⟨uu,hu,?_,?_⟩;have:bs[j]?=some (bs.getD j .top):=xqN hj;simp only[M.strOf,List.getElem?_map,this,hu,Option.map_some,AV.toInt,zN,UInt8.ofNat_toNat];have hr:=k3 j 0 hj (by omega);(rw[Q,hu]at hr;simp only[Nat.mul_one,Nat.add_zero,AV.cells,List.getD_cons_zero]at hr;have:=hr.int_inv;have aa:j<c1.size:=by have:=q.fits;simp only at this;rw[k2,Q];omega);(simp only[World.cell?,k1];have e2:c1.getD j undef=c1[j]:=by simp[aa]);rw[e2]at this;simp[aa,this]
 refine (Tryz.builder_string m.b m1.b m1.cap (M.strOf bs) c1 w (by rw [hl];exact e1) k1 (fun j x hx=>by
  have hj:j<bs.length:=by
   rcases zJ j bs.length with h'|h'
   . exact h'
   . rw[zz (by omega)]at hx;simp at hx
  obtain⟨uu,g1,g2,g3⟩:=V j hj;rw[g2]at hx;obtain rfl:=(z6 _ _).mp hx;by_cases Z:j=0
  . subst Z;simpa[Addr.add]using g3
  . simpa [Addr.add,Z] using g3) (by rw [hl,k2,Q];have:=q.fits;simp only at this;omega) (by omega) (fun e=>hne (by rw [<-hl,e];rfl)) (by rw [hl];have h1:=q.fits;have h2:=q.capm;simp only at h1;unfold maxLen at h2;omega)).mono ?_
 rintro e w' ⟨rfl,rfl⟩;rw[hl];have Y:=q.low J;obtain⟨g1,g2⟩:=xDJ hR J ai rfl rfl rfl q (u+1) (by have:=q.ver;simp only at this;omega) 1 5 rfl (w':=w.drew.freeze ⟨m1.b,0,none⟩ bs.length) (by rw[xAh];rfl) (λ b hb=>by rw[xy2 _ _ _ _ hb];rfl);exact⟨_,A,_,rfl,Lib.below_freeze (hB.drew) (p:=⟨m1.b,0,none⟩) Y _,λ _ _=>Iff.rfl,Ev.refl.step g2,by simpa using g1,.str _⟩;rename_i ty a pm rest al;split at h;case h_2=>simp at h
 rename_i O;have O:=zg O;subst O;simp only[z6,zb,true_and]at h;obtain⟨rfl,rfl⟩:=h;refine⟨xdu Tryz.func97 rfl (by kernel_rfl),λ w0 w A MM vs hI hB hR W=>?_⟩;obtain⟨v,rfl,hv⟩:=rc1 W;obtain⟨m,c,hm,ab,hcap,rfl,hh,ah,hsz,r0,r1,e0,e1⟩:=xnF hR (by rfl) hv rfl;have hn:c.getD 1 undef=.slice none 0 0:=by revert r1;generalize c.getD 1 undef=z;intro r1;cases r1;rfl
 rw[hn]at e1;refine(Tryz.builder_string_nil m.b w e1).mono ?_;rintro e w' ⟨rfl,rfl⟩;exact⟨_,A,MM,rfl,hB.drew,λ _ _=>Iff.rfl,Ev.refl.step ⟨zd _,λ _ _ _=>rfl,λ _ _ h=>h,λ _ _ h _=>h,MExt.refl MM,⟨λ _ _ _=>rfl,λ i m1 h1 h0=>.inl ⟨i,m1,h1,h0,rfl⟩⟩⟩,hR.drew,.str _⟩;simp at h
end Go.Sim
end
noncomputable section
namespace Go.Sim
open Go.RowKit
variable{α β γ:Type}
structure Pat (α β:Type) where
 enc:β->α
 dec:α->Option β
 ok:∀a b,dec a=some b->a=enc b
def xMf:Pat α α:=⟨λ b=>b,some,λ a b h=>by simpa using h⟩
def pInt (k:IntKind):Pat AV Int:=⟨.int k,fun v=>match v with
 |.int k' n=>match decide (k'=k)with
  |true=>some n
  |false=>none
 |_=>none,λ v n h=>by
 split at h
 . split at h
   . rename_i hk;simp only[z6]at h;rw[of_decide_eq_true hk,h]
   . simp at h
 . simp at h⟩
def pStr:Pat AV (List UInt8):=⟨.str,fun v=>match v with
 |.str s=>some s
 |_=>none,λ v n h=>by
 split at h
 . simp only[z6]at h;rw[h]
 . simp at h⟩
def pBool:Pat AV Bool:=⟨.bool,fun v=>match v with
 |.bool s=>some s
 |_=>none,λ v n h=>by
 split at h
 . simp only[z6]at h;rw[h]
 . simp at h⟩
def xMt (sz:Nat) (q:Pat (List AV) β):Pat AV β:=⟨fun b=>.list sz (q.enc b),fun v=>match v with
 |.list z xs=>match Nat.beq z sz with
  |true=>q.dec xs
  |false=>none
 |_=>none,λ v n h=>by
 split at h
 . split at h
   . rename_i hz;rw[zg hz,q.ok _ _ h]
   . simp at h
 . simp at h⟩
def xMn (id ver off:Nat):Pat AV Nat:=⟨.osl id ver off,fun v=>match v with
 |.osl (.b i) e o n=>match Nat.beq i id&&(Nat.beq e ver&&Nat.beq o off)with
  |true=>some n
  |false=>none
 |_=>none,λ v n h=>by
 split at h
 . split at h
   . rename_i hz;simp only[zf]at hz;simp only[z6]at h;rw[zg hz.1,zg hz.2.1,zg hz.2.2,h]
   . simp at h
 . simp at h⟩
def pOslV (id off:Nat):Pat AV (Nat×Nat):=⟨fun p=>.osl id p.1 off p.2,fun v=>match v with
 |.osl (.b i) e o n=>match Nat.beq i id&&Nat.beq o off with
  |true=>some (e,n)
  |false=>none
 |_=>none,λ v n h=>by
 split at h
 . split at h
   . rename_i hz;simp only[zf]at hz;simp only[z6]at h;rw[zg hz.1,zg hz.2,<-h]
   . simp at h
 . simp at h⟩
def pOwnV (id j:Nat):Pat AV (Nat×Nat):=⟨fun p=>.own id p.1 p.2 j,fun v=>match v with
 |.own (.b a) b c d=>match Nat.beq a id&&Nat.beq d j with
  |true=>some (b,c)
  |false=>none
 |_=>none,λ v n h=>by
 split at h
 . split at h
   . rename_i hz;simp only[zf]at hz;simp only[z6]at h;rw[zg hz.1,zg hz.2,<-h]
   . simp at h
 . simp at h⟩
def xMo (id ver i j:Nat):Pat AV Unit:=⟨fun _=>.own id ver i j,fun v=>match v with
 |.own (.b a) b c d=>match Nat.beq a id&&(Nat.beq b ver&&(Nat.beq c i&&Nat.beq d j))with
  |true=>some ()
  |false=>none
 |_=>none,λ v n h=>by
 split at h
 . split at h
   . rename_i hz;simp only[zf]at hz;rw[zg hz.1,zg hz.2.1,zg hz.2.2.1,zg hz.2.2.2]
   . simp at h
 . simp at h⟩
def pEptr (sz i j:Nat) (q:Pat (List AV) β):Pat AV β:=⟨fun b=>.eptr sz (q.enc b) i j,fun v=>match v with
 |.eptr a xs c d=>match Nat.beq a sz&&(Nat.beq c i&&Nat.beq d j)with
  |true=>q.dec xs
  |false=>none
 |_=>none,λ v n h=>by
 split at h
 . split at h
   . rename_i hz;simp only[zf]at hz;rw[zg hz.1,zg hz.2.1,zg hz.2.2,q.ok _ _ h]
   . simp at h
 . simp at h⟩
def xMp (q:Pat (List AV) β):Pat AV β:=⟨fun b=>.agg (q.enc b),fun v=>match v with
 |.agg cs=>q.dec cs
 |_=>none,λ v n h=>by
 split at h
 . rw[q.ok _ _ h]
 . simp at h⟩
def xLR (f:Nat) (q:Pat (List AV) β):Pat AV β:=⟨fun b=>.func f (q.enc b),fun v=>match v with
 |.func g cs=>match Nat.beq g f with
  |true=>q.dec cs
  |false=>none
 |_=>none,λ v n h=>by
 split at h
 . split at h
   . rename_i hz;rw[zg hz,q.ok _ _ h]
   . simp at h
 . simp at h⟩
def pNils:Pat AV Unit:=⟨fun _=>.nils,fun v=>match v with
 |.nils=>some ()
 |_=>none,λ v n h=>by
 split at h
 . rfl
 . simp at h⟩
def pNilptr:Pat AV Unit:=⟨fun _=>.nilptr,fun v=>match v with
 |.nilptr=>some ()
 |_=>none,λ v n h=>by
 split at h
 . rfl
 . simp at h⟩
def xMd:Pat (List α) Unit:=⟨fun _=>[],fun v=>match v with
 |[]=>some ()
 |_=>none,λ v n h=>by
 split at h
 . rfl
 . simp at h⟩
def xMb (p:Pat α β) (q:Pat (List α) γ):Pat (List α) (β×γ):=⟨fun b=>p.enc b.1::q.enc b.2,fun v=>match v with
 |x::t=>match p.dec x with
  |some b=>match q.dec t with
   |some c=>some (b,c)
   |none=>none
  |none=>none
 |_=>none,λ v n h=>by
 split at h
 . split at h
   . rename_i hp;split at h
     . rename_i hq;cases h;rw[p.ok _ _ hp,q.ok _ _ hq]
     . simp at h
   . simp at h
 . simp at h⟩
def xMq (ver sz ty:Nat) (frz pm:Bool) (q:Pat (List AV) β):Pat Box β:=⟨fun b=>⟨ver,sz,ty,q.enc b,frz,pm⟩,fun v=>match v with
 |⟨a,b,c,xs,f,p⟩=>match Nat.beq a ver&&(Nat.beq b sz&&(Nat.beq c ty&&((f==frz)&&(p==pm))))with
  |true=>q.dec xs
  |false=>none,λ v n h=>by
 obtain⟨a,b,c,xs,f,p⟩:=v;dsimp only at h;split at h
 . rename_i hz;simp only[zf,beq_iff_eq]at hz;rw[zg hz.1,zg hz.2.1,zg hz.2.2.1,hz.2.2.2.1,hz.2.2.2.2,q.ok _ _ h]
 . simp at h⟩
def pBoxV (sz ty:Nat) (frz pm:Bool) (q:Pat (List AV) β):Pat Box (Nat×β):=⟨fun b=>⟨b.1,sz,ty,q.enc b.2,frz,pm⟩,fun v=>match v with
 |⟨a,b,c,xs,f,p⟩=>match Nat.beq b sz&&(Nat.beq c ty&&((f==frz)&&(p==pm)))with
  |true=>match q.dec xs with
   |some y=>some (a,y)
   |none=>none
  |false=>none,λ v n h=>by
 obtain⟨a,b,c,xs,f,p⟩:=v;dsimp only at h;split at h
 . rename_i hz;simp only[zf,beq_iff_eq]at hz;split at h
   . rename_i y hy;simp only[z6]at h;rw[zg hz.1,zg hz.2.1,hz.2.2.1,hz.2.2.2,<-h,q.ok _ _ hy]
   . simp at h
 . simp at h⟩
def Sub(a b:AV):Prop:=∀(w:World)(A:Nat->Prop)(M:Id->Option MB)(v:Value),Rel w A M v a->Rel w A M v b
def SubL(aS bs:List AV):Prop:=aS.length=bs.length/\∀i,i<aS.length->Sub (aS.getD i .top) (bs.getD i .top)
def Sub.refl(a:AV):Sub a a:=λ _ _ _ _ h=>h
def Sub.of_eq{a b:AV}(h:a=b):Sub a b:=h▸Sub.refl a
def xF3(sz:Nat):Sub .nils (.list sz []):=λ w A M v h=>by cases h;exact .list0 _ _ _
variable {aS bs:List AV}
def xHs(h:SubL aS bs):Sub (.agg aS) (.agg bs):=λ w A M v hr=>by obtain⟨vs,rfl,h1,h2⟩:=hr.agg_inv;exact .agg vs bs (h1.trans h.1) λ i hi=>h.2 i (h.1.symm▸hi) w A M _ (h2 i (h.1.symm▸hi))
def xEj{w:World}{A:Nat->Prop}{M:Id->Option MB}{vs:List Value}(h:SubL aS bs)(hr:RC w A M vs aS):RC w A M vs bs:=⟨hr.1.trans h.1,λ i hi=>h.2 i (h.1.symm▸hi) w A M _ (hr.2 i (h.1.symm▸hi))⟩
structure SPat (β:Type) where
 enc:β->AV
 dec:AV->Option β
 ok:∀a b,dec a=some b->Sub a (enc b)
structure SPatL (β:Type) where
 enc:β->List AV
 dec:List AV->Option β
 ok:∀a b,dec a=some b->SubL a (enc b)
def sEq(p:Pat AV β):SPat β:=⟨p.enc,p.dec,λ a b h=>Sub.of_eq (p.ok a b h)⟩
def xMr (sz:Nat) (q:Pat (List AV) β):SPat β:=⟨fun b=>.list sz (q.enc b),fun v=>match v with
 |.nils=>q.dec []
 |.list z xs=>match Nat.beq z sz with
  |true=>q.dec xs
  |false=>none
 |_=>none,λ v n h=>by
 split at h
 . rw[<-q.ok _ _ h];exact xF3 sz
 . split at h
   . rename_i hz;rw[zg hz,q.ok _ _ h];exact Sub.refl _
   . simp at h
 . simp at h⟩
def xMs (q:SPatL β):SPat β:=⟨fun b=>.agg (q.enc b),fun v=>match v with
 |.agg cs=>q.dec cs
 |_=>none,λ v n h=>by
 split at h
 . exact xHs (q.ok _ _ h)
 . simp at h⟩
def xMe:SPatL Unit:=⟨fun _=>[],fun v=>match v with
 |[]=>some ()
 |_=>none,λ v n h=>by
 split at h
 . exact⟨rfl,λ i hi=>by simp at hi⟩
 . simp at h⟩
def xMc (p:SPat β) (q:SPatL γ):SPatL (β×γ):=⟨fun b=>p.enc b.1::q.enc b.2,fun v=>match v with
 |x::t=>match p.dec x with
  |some b=>match q.dec t with
   |some c=>some (b,c)
   |none=>none
  |none=>none
 |_=>none,λ v n h=>by
 split at h
 . split at h
   . rename_i hp;split at h
     . rename_i hq;cases h;obtain⟨h1,h2⟩:=q.ok _ _ hq;refine⟨by simp[h1],λ i hi=>?_⟩
       cases i with
       |zero=>exact p.ok _ _ hp
       |succ i=>exact h2 i (by simpa using hi)
     . simp at h
   . simp at h
 . simp at h⟩
def ocOf(pv:SPatL β)(g:β->Bool×AV):List AV->Option (Bool×AV):=λ xs=>match pv.dec xs with|some b=>some (g b)|none=>none
def omOf(pv:SPatL β)(pb:Pat (List Box) γ)(g:β->γ->Bool×AV×List Box):List AV->List Box->Option (Bool×AV×List Box):=λ xs H=>match pv.dec xs with|some b=>(match pb.dec H with|some c=>some (g b c)|none=>none)|none=>none
def lpOf (live liveO:List Nat) (conv:List (Nat×Nat×TypeId)) (pv:Pat (List AV) β) (pb:Pat (List Box) γ) (g:β->γ->Bool×LR):Lp:=⟨live,liveO,conv,fun xs H=>match pv.dec xs with|some b=>(match pb.dec H with|some c=>some (g b c)|none=>none)|none=>none⟩
section
variable{P:Program}{Inv:IV}
variable {n:FuncId}
def xko{pv:SPatL β}{g:β->Bool×AV}(h:∀b r,g b=(true,r)->Good P Inv n (pv.enc b) r):OcOk P Inv n (ocOf pv g):=λ xs r e=>by unfold ocOf at e;split at e;rename_i b hb;simp only[z6]at e;obtain⟨h1,h2⟩:=h b r e;exact⟨h1,λ w A vs hi ha hr=>h2 w A vs hi ha (xEj (pv.ok _ _ hb) hr)⟩;simp at e
variable {pb:Pat (List Box) γ}
def xkp{pv:SPatL β}{g:β->γ->Bool×AV×List Box}(h:∀b c r H',g b c=(true,r,H')->GoodM P Inv n (pv.enc b) (pb.enc c) r H'):OmOk P Inv n (omOf pv pb g):=λ xs H r H' e=>by unfold omOf at e;split at e;rename_i b hb;split at e;rename_i c hc;simp only[z6]at e;rw[pb.ok _ _ hc];obtain⟨h1,h2⟩:=h b c r H' e;exact⟨h1,λ w0 w A M vs hi q hR hr=>h2 w0 w A M vs hi q hR (xEj (pv.ok _ _ hb) hr)⟩;simp at e;simp at e
def xD5{nt:Nat}{l:Code}{live liveO:List Nat}{conv:List (Nat×Nat×TypeId)}{pv:Pat (List AV) β}{g:β->γ->Bool×LR}(h:∀b c r,g b c=(true,r)->DoesL P Inv l (λ e1 s1=>e1=r.eval.1/\s1=⟨mkTs nt (liveO.zip r.eval.2.1),r.eval.2.2⟩) ⟨mkTs nt (live.zip (pv.enc b)),pb.enc c⟩):LoopOk P Inv nt l (lpOf live liveO conv pv pb g):=λ vals H r e=>by unfold lpOf at e;dsimp only at e;split at e;rename_i b hb;split at e;rename_i c hc;simp only[z6]at e;rw[pv.ok _ _ hb,pb.ok _ _ hc];exact h b c r e;simp at e;simp at e
end
def xce{x:Option α}{d:α}(h:x.isSome):x=some (x.getD d):=by cases x with|none=>simp at h|some y=>rfl
end Go.Sim
end
noncomputable section
namespace Go.Sim.M
open Go.RowKit Go.Proofs
def E0:Env:=(((Env.none.with 190 xkU).with 95 xnB).withM 130 xqh).withM 97 xlm
def xJk:xLt Tryz.prog xMa E0:=(((xCh.with xtd).with xv8).withM xAc).withM xtQ
end Go.Sim.M
end
noncomputable section
namespace Go.Sim
open Go.RowKit
def EncS{α:Type}(f:α->AV)(a:Option α)(b:Option AV):Prop:=∀r,a=some r->∃x,b=some x/\Sub x (f r)
variable {b:Option AV}
def EncS.none{α:Type}{f:α->AV}:EncS f .none b:=λ r h=>by simp at h
def EncS.some{α:Type}{f:α->AV}{a:α}{b:AV}(h:Sub b (f a)):EncS f (Option.some a) (Option.some b):=λ r e=>by cases e;exact⟨b,rfl,h⟩
def EncS.br{α:Type}{f:α->AV}{t:Bool}{a a':Option α}{b':Option AV}(h1:EncS f a b)(h2:EncS f a' b'):EncS f (Sim.br t a a') (Sim.br t b b'):=by cases t<;>assumption
variable {Inv:IV}{P:Program}{args:List AV}
def Good.sub{f:FuncId}{r r':AV}(h:Good P Inv f args r)(hs:Sub r r'):Good P Inv f args r':=⟨h.1,λ w A vs hI hA q=>(h.2 w A vs hI hA q).mono λ e w'⟨v,he,hb,hr⟩=>⟨v,he,hb,hs w' A xLH v hr⟩⟩
variable {H:List Box}{frz:Bool}{k:Nat}{pm:Bool}{sz v v':Nat}{xs:List AV}
def GoodM.bump1{f:FuncId}{ty:TypeId}(Q:isC ty=false)(hv:v<v')(h:GoodM P Inv f args H (.osl (.b 0) v 0 k) [⟨v,sz,ty,xs,frz,pm⟩]):GoodM P Inv f args H (.osl (.b 0) v' 0 k) [⟨v',sz,ty,xs,frz,pm⟩]:=by
 refine⟨h.1,λ w0 w A M vs hI hB hR W=>(h.2 w0 w A M vs hI hB hR W).mono ?_⟩;rintro e w' ⟨u,A',M',rfl,h1,h2,h3,h4,h5⟩;obtain⟨m,g1,g2,g3,g4⟩:=Rel.osl_inv h5;obtain⟨bx,q1,q2⟩:=h4.box _ m g1;have:bx=⟨v,sz,ty,xs,frz,pm⟩:=by have:=q1;rw[xbb]at this;simpa using this.symm
 subst this;have V:v=m.ver:=q2.ver;have O:MExt M' (MSet M' (.b 0) ⟨m.b,v',m.sz,m.cap,m.ty⟩):=xni g1 (.inr (by simp only;omega));have J:∀id m1,MSet M' (.b 0) ⟨m.b,v',m.sz,m.cap,m.ty⟩ id=some m1->∃m0,M' id=some m0/\m1.b=m0.b/\m1.cap=m0.cap:=λ id m1 q=>by by_cases hi:id=.b 0;subst hi;simp[MSet]at q;subst q;exact⟨m,g1,rfl,rfl⟩;exact⟨m1,by simpa[MSet,hi]using q,rfl,rfl⟩
 have hR':HR w' A' (MSet M' (.b 0) ⟨m.b,v',m.sz,m.cap,m.ty⟩) w0.heap.size [⟨v',sz,ty,xs,frz,pm⟩]:=by refine⟨λ id m1 q=>?_,λ id id' m1 m2 k1 k2 c1 c2 he=>?_,h4.lt⟩;by_cases hi:id=.b 0;(subst hi;have:m1=⟨m.b,v',m.sz,m.cap,m.ty⟩:=by simp[MSet]at q;exact q.symm);subst this;have q3:=q2.mono (w':=w') (λ _=>rfl) (λ _ _ _=>rfl) (zd _) (λ _ _ h=>h) q2.guard O;exact⟨⟨v',sz,ty,xs,frz,pm⟩,rfl,rfl,q3.sz,q3.ty,q3.capm,q3.fits,q3.ok,q3.low,q3.lt,q3.cells,q3.guard⟩;(have Y:M' id=some m1:=by simpa[MSet,hi]using q);(obtain⟨bx,k1,k2⟩:=h4.box id m1 Y;have k3:getB [⟨v',sz,ty,xs,frz,pm⟩] id=some bx:=by rw[<-k1];exact xcd (H:=[⟨v,sz,ty,xs,frz,pm⟩]) (n:=0) (bx:=⟨v,sz,ty,xs,frz,pm⟩) (bx':=⟨v',sz,ty,xs,frz,pm⟩) rfl Q Q hi);exact⟨bx,k3,k2.mono (λ _=>rfl) (λ _ _ _=>rfl) (zd _) (λ _ _ h=>h) k2.guard O⟩;obtain⟨n1,a1,a2,a3⟩:=J id m1 k1;obtain⟨n2,b1,b2,b3⟩:=J id' m2 k2;exact h4.inj id id' n1 n2 a1 b1 (by omega) (by omega) (by rw[<-a2,<-b2,he])
 refine⟨u,A',MSet M' (.b 0) ⟨m.b,v',m.sz,m.cap,m.ty⟩,rfl,h1,h2,h3.step ⟨zd _,λ _ _ _=>rfl,λ _ _ h=>h,λ _ _ h _=>h,O,⟨λ _ _ _=>rfl,λ id m1 q h0=>?_⟩⟩,hR',?_⟩;obtain⟨n1,a1,a2,a3⟩:=J id m1 q;exact .inl ⟨id,n1,a1,by omega,a2⟩;exact .osl u (.b 0) v' 0 k ⟨m.b,v',m.sz,m.cap,m.ty⟩ (by simp[MSet]) (zd _) g3 λ _=>g4 V
def GoodM.weaken{f:FuncId}{H1 H2:List Box}{r r2:AV}(h:GoodM P Inv f args H r H1)(hw:∀w A M B v,HR w A M B H1->Rel w A M v r->∃M',HR w A M' B H2/\Mv w A M w A M'/\Rel w A M' v r2):GoodM P Inv f args H r2 H2:=by refine⟨h.1,λ w0 w A M vs hI hB hR q=>(h.2 w0 w A M vs hI hB hR q).mono ?_⟩;rintro e w' ⟨u,A',M',rfl,h1,h2,h3,h4,h5⟩;obtain⟨M2,g1,g2,g3⟩:=hw w' A' M' _ u h4 h5;exact⟨u,A',M2,rfl,h1,h2,h3.step g2,g1,g3⟩
def xDI{w:World}{A:Nat->Prop}{M:Id->Option MB}{B:Nat}(hR:HR w A M B H){n:Nat}{m:MB}{bx:Box}(hm:M (.b n)=some m)(hb:H[n]?=some bx)(V:isC bx.ty=false)(v:Nat)(hv:m.ver<v)(sz:Nat)(ty:TypeId)(O:isC ty=false):HR w A (MSet M (.b n) ⟨m.b,v,sz,0,ty⟩) B (H.set n ⟨v,sz,ty,[],false,true⟩)/\Mv w A M w A (MSet M (.b n) ⟨m.b,v,sz,0,ty⟩):=by
 have J:MExt M (MSet M (.b n) ⟨m.b,v,sz,0,ty⟩):=xni hm (.inr hv);have hc:∀{p:Prop},0<(0:Nat)->p:=λ h=>absurd h (by omega);have q:∀i m1,MSet M (.b n) ⟨m.b,v,sz,0,ty⟩ i=some m1->0<m1.cap->i≠.b n/\M i=some m1:=λ i m1 h1 h0=>by by_cases hi:i=.b n;subst hi;simp[MSet]at h1;subst h1;exact absurd h0 (by simp);exact⟨hi,by simpa[MSet,hi]using h1⟩
 refine⟨⟨λ i m1 h1=>?_,λ i i' m1 m2 h1 h2 c1 c2 he=>hR.inj i i' m1 m2 (q i m1 h1 c1).2 (q i' m2 h2 c2).2 c1 c2 he,hR.lt⟩,⟨zd _,λ _ _ _=>rfl,λ _ _ h=>h,λ _ _ h _=>h,J,⟨λ _ _ _=>rfl,λ i m1 h1 h0=>.inl ⟨i,m1,(q i m1 h1 h0).2,h0,rfl⟩⟩⟩⟩;by_cases hi:i=.b n;subst hi;have:m1=⟨m.b,v,sz,0,ty⟩:=by simp[MSet]at h1;exact h1.symm
 subst this;exact⟨⟨v,sz,ty,[],false,true⟩,by rw[xbb,zL (xcs hb)],rfl,rfl,xbu O,zQ _,zQ _,λ x hx=>by simp at hx,hc,hc,hc,hc⟩;have W:M i=some m1:=by simpa[MSet,hi]using h1
 obtain⟨Q,g1,g2⟩:=hR.box i m1 W;exact⟨Q,by rw[xcd hb V O hi];exact g1,g2.mono (λ _=>rfl) (λ _ _ _=>rfl) (zd _) (λ _ _ h=>h) g2.guard J⟩
def GoodM.drop0{f:FuncId}{w V:Nat}{ty q:TypeId}{ys:List AV}{J Q:Bool}(O:isC ty=false)(hv:v<v')(h:GoodM P Inv f args H (.osl (.b 1) w 0 k) [⟨v,sz,ty,xs,frz,pm⟩,⟨w,V,q,ys,J,Q⟩]):GoodM P Inv f args H (.osl (.b 1) w 0 k) [⟨v',sz,ty,[],false,true⟩,⟨w,V,q,ys,J,Q⟩]:=h.weaken λ w1 A M B u hR hr=>by cases hm:M (.b 0)with|some m=>(obtain⟨bx,q1,q2⟩:=hR.box _ m hm;have hb:[(⟨v,sz,ty,xs,frz,pm⟩:Box),⟨w,V,q,ys,J,Q⟩][0]?=some ⟨v,sz,ty,xs,frz,pm⟩:=rfl;rw[xbb,hb]at q1;cases q1;obtain⟨g1,g2⟩:=xDI hR hm hb O v' (by have:v=m.ver:=q2.ver;omega) sz ty O;exact⟨_,g1,g2,g2.rel hr⟩)|none=>refine⟨M,⟨λ i m W=>?_,hR.inj,hR.lt⟩,Mv.refl,hr⟩;obtain⟨bx,q1,q2⟩:=hR.box i m W;refine⟨bx,?_,q2⟩;by_cases hi:i=.b 0;subst hi;rw[hm]at W;cases W;rw[<-q1];exact xcd (H:=[⟨v,sz,ty,xs,frz,pm⟩,⟨w,V,q,ys,J,Q⟩]) (n:=0) (bx:=⟨v,sz,ty,xs,frz,pm⟩) (bx':=⟨v',sz,ty,[],false,true⟩) rfl O O hi
def GoodM.move0{f:FuncId}{w:Nat}{ty:TypeId}(q:isC ty=false)(hv:v<v')(h:GoodM P Inv f args H (.osl (.b 0) v 0 k) [⟨v,sz,ty,xs,frz,true⟩]):GoodM P Inv f args H (.osl (.b 1) w 0 k) [⟨v',sz,ty,[],false,true⟩,⟨w,sz,ty,xs,frz,true⟩]:=h.weaken λ w1 A M B u hR hr=>by
 obtain⟨m,g1,g2,g3,g4⟩:=Rel.osl_inv hr;obtain⟨bx,q1,q2⟩:=hR.box _ m g1;have:bx=⟨v,sz,ty,xs,frz,true⟩:=by have:=q1;rw[xbb]at this;simpa using this.symm
 subst this;have Q:v=m.ver:=q2.ver;have W:M (.b 1)=none:=by cases h1:M (.b 1)with|none=>rfl|some m1=>obtain⟨b1,k1,_⟩:=hR.box _ m1 h1;rw[xbb]at k1;simp at k1
 have V:∀n i j m1,M (.r n i j)=some m1->n=0:=λ n i j m1 h1=>by obtain⟨b1,k1,_⟩:=hR.box _ m1 h1;obtain⟨b0,k2,_⟩:=xmm k1;have:=xcs k2;simp at this;omega
 let M2:Id->Option MB:=MSet (MSet M (.b 0) ⟨m.b,v',sz,0,ty⟩) (.b 1) ⟨m.b,w,m.sz,m.cap,m.ty⟩;have e1:M2 (.b 1)=some ⟨m.b,w,m.sz,m.cap,m.ty⟩:=by simp[M2,MSet]
 have e0:M2 (.b 0)=some ⟨m.b,v',sz,0,ty⟩:=by simp[M2,MSet]
 have eo:∀i,i≠.b 0->i≠.b 1->M2 i=M i:=λ i h0 h1=>by simp[M2,MSet,h0,h1]
 have J:MExt M M2:=λ i m1 h1=>by by_cases h0:i=.b 0;subst h0;rw[g1]at h1;cases h1;exact⟨_,e0,.inr (by simp only;omega)⟩;by_cases h2:i=.b 1;subst h2;rw[W]at h1;cases h1;exact⟨m1,by rw[eo i h0 h2];exact h1,.inl rfl⟩
 have O:∀i m1,M2 i=some m1->0<m1.cap->i≠.b 0/\∃i0 m0,M i0=some m0/\m0.b=m1.b/\m0.cap=m1.cap/\(i=.b 1->i0=.b 0)/\(i≠.b 1->i0=i):=λ i m1 h1 h0=>by by_cases hi:i=.b 0;subst hi;rw[e0]at h1;cases h1;exact absurd h0 (by simp);refine⟨hi,?_⟩;by_cases h2:i=.b 1;subst h2;rw[e1]at h1;cases h1;exact⟨.b 0,m,g1,rfl,rfl,λ _=>rfl,λ h=>absurd rfl h⟩;rw[eo i hi h2]at h1;exact⟨i,m1,h1,rfl,rfl,λ h=>absurd h h2,λ _=>rfl⟩
 refine⟨M2,⟨λ i m1 h1=>?_,λ i i' m1 m2 h1 h2 c1 c2 he=>?_,hR.lt⟩,⟨zd _,λ _ _ _=>rfl,λ _ _ h=>h,λ _ _ h _=>h,J,⟨λ _ _ _=>rfl,λ i m1 h1 h0=>?_⟩⟩,?_⟩;by_cases hi:i=.b 0;subst hi;rw[e0]at h1;cases h1;have hc:∀{p:Prop},0<(0:Nat)->p:=λ h=>absurd h (by omega)
 exact⟨⟨v',sz,ty,[],false,true⟩,rfl,rfl,rfl,xbu q,zQ _,zQ _,λ x hx=>by simp at hx,hc,hc,hc,hc⟩;by_cases h2:i=.b 1;subst h2;rw[e1]at h1;cases h1;have q3:=q2.mono (w':=w1) (A':=A) (λ _=>rfl) (λ _ _ _=>rfl) (zd _) (λ _ _ h=>h) q2.guard J;refine⟨⟨w,sz,ty,xs,frz,true⟩,rfl,rfl,q3.sz,q3.ty,q3.capm,q3.fits,q3.ok,q3.low,q3.lt,λ h0=>?_,q3.guard⟩;obtain⟨c,c1,c2,c3⟩:=q3.cells h0;refine⟨c,c1,c2,λ i j hi hj=>?_⟩;have:=c3 i j hi hj;rw[xas q,xa2 q]at this;rw[xas q,xa2 (bx:=⟨w,sz,ty,xs,frz,true⟩) q];exact this;rw[eo i hi h2]at h1;obtain⟨b1,k1,k2⟩:=hR.box i m1 h1;cases i with|b n=>(rw[xbb]at k1;have:=xcs k1;have:n=0:=by simp at this;omega);subst this;exact absurd rfl hi|r n a b=>have hn:=V n a b m1 h1;subst hn;rw[xdv (H:=[⟨v,sz,ty,xs,frz,true⟩]) (by rfl) q]at k1;cases k1;exact⟨tombB,xdv (by rfl) q,k2.mono (λ _=>rfl) (λ _ _ _=>rfl) (zd _) (λ _ _ h=>h) k2.guard J⟩
 obtain⟨a1,i0,n0,a2,a3,a4,a5,a6⟩:=O i m1 h1 c1;obtain⟨b1,j0,n1,b2,b3,b4,b5,b6⟩:=O i' m2 h2 c2;have:=hR.inj i0 j0 n0 n1 a2 b2 (by omega) (by omega) (by rw[a3,b3,he]);by_cases hi:i=.b 1;by_cases hj:i'=.b 1;rw[hi,hj];rw[a5 hi,b6 hj]at this;exact absurd this.symm b1;by_cases hj:i'=.b 1;rw[a6 hi,b5 hj]at this;exact absurd this a1;rw[a6 hi,b6 hj]at this;exact this;obtain⟨a1,i0,n0,a2,a3,a4,_,_⟩:=O i m1 h1 h0;exact .inl ⟨i0,n0,a2,by omega,a3.symm⟩;exact .osl u (.b 1) w 0 k ⟨m.b,w,m.sz,m.cap,m.ty⟩ e1 (zd _) g3 λ _=>g4 Q
end Go.Sim
end
noncomputable section
namespace Go.Sim
open Go.RowKit Go.Proofs
noncomputable abbrev P0:Program:=Tryz.prog
section
variable{α β γ ρ σ:Type}
def qI:Pat AV Int:=pInt .i64
def qL(k:Nat):Pat AV (List AV):=xMt k xMf
def qB{β:Type}(v s t:Nat)(q:Pat (List AV) β):Pat Box β:=xMq v s t false true q
def bF(v s t:Nat)(x:List AV):Box:=⟨v,s,t,x,false,true⟩
def uI:SPat Int:=sEq qI
def uL(k:Nat):SPat (List AV):=xMr k xMf
def q1{α α0:Type}(a:Pat α α0):Pat (List α) (α0×Unit):=xMb a (xMd)
def q2{α α0 α1:Type}(a:Pat α α0)(b:Pat α α1):Pat (List α) (α0×α1×Unit):=xMb a (xMb b (xMd))
def q3{α α0 α1 α2:Type}(a:Pat α α0)(b:Pat α α1)(c:Pat α α2):Pat (List α) (α0×α1×α2×Unit):=xMb a (xMb b (xMb c (xMd)))
def q4{α α0 α1 α2 α3:Type}(a:Pat α α0)(b:Pat α α1)(c:Pat α α2)(d:Pat α α3):Pat (List α) (α0×α1×α2×α3×Unit):=xMb a (xMb b (xMb c (xMb d (xMd))))
def q5{α α0 α1 α2 α3 α4:Type}(a:Pat α α0)(b:Pat α α1)(c:Pat α α2)(d:Pat α α3)(e:Pat α α4):Pat (List α) (α0×α1×α2×α3×α4×Unit):=xMb a (xMb b (xMb c (xMb d (xMb e (xMd)))))
def q6{α α0 α1 α2 α3 α4 α5:Type}(a:Pat α α0)(b:Pat α α1)(c:Pat α α2)(d:Pat α α3)(e:Pat α α4)(f:Pat α α5):Pat (List α) (α0×α1×α2×α3×α4×α5×Unit):=xMb a (xMb b (xMb c (xMb d (xMb e (xMb f (xMd))))))
def q7{α α0 α1 α2 α3 α4 α5 α6:Type}(a:Pat α α0)(b:Pat α α1)(c:Pat α α2)(d:Pat α α3)(e:Pat α α4)(f:Pat α α5)(g:Pat α α6):Pat (List α) (α0×α1×α2×α3×α4×α5×α6×Unit):=xMb a (xMb b (xMb c (xMb d (xMb e (xMb f (xMb g (xMd)))))))
def q8{α α0 α1 α2 α3 α4 α5 α6 α7:Type}(a:Pat α α0)(b:Pat α α1)(c:Pat α α2)(d:Pat α α3)(e:Pat α α4)(f:Pat α α5)(g:Pat α α6)(h:Pat α α7):Pat (List α) (α0×α1×α2×α3×α4×α5×α6×α7×Unit):=xMb a (xMb b (xMb c (xMb d (xMb e (xMb f (xMb g (xMb h (xMd))))))))
def q9{α α0 α1 α2 α3 α4 α5 α6 α7 α8:Type}(a:Pat α α0)(b:Pat α α1)(c:Pat α α2)(d:Pat α α3)(e:Pat α α4)(f:Pat α α5)(g:Pat α α6)(h:Pat α α7)(i:Pat α α8):Pat (List α) (α0×α1×α2×α3×α4×α5×α6×α7×α8×Unit):=xMb a (xMb b (xMb c (xMb d (xMb e (xMb f (xMb g (xMb h (xMb i (xMd)))))))))
def q10{α α0 α1 α2 α3 α4 α5 α6 α7 α8 α9:Type}(a:Pat α α0)(b:Pat α α1)(c:Pat α α2)(d:Pat α α3)(e:Pat α α4)(f:Pat α α5)(g:Pat α α6)(h:Pat α α7)(i:Pat α α8)(j:Pat α α9):Pat (List α) (α0×α1×α2×α3×α4×α5×α6×α7×α8×α9×Unit):=xMb a (xMb b (xMb c (xMb d (xMb e (xMb f (xMb g (xMb h (xMb i (xMb j (xMd))))))))))
def u1{α0:Type}(a:SPat α0):SPatL (α0×Unit):=xMc a (xMe)
def u2{α0 α1:Type}(a:SPat α0)(b:SPat α1):SPatL (α0×α1×Unit):=xMc a (xMc b (xMe))
def u3{α0 α1 α2:Type}(a:SPat α0)(b:SPat α1)(c:SPat α2):SPatL (α0×α1×α2×Unit):=xMc a (xMc b (xMc c (xMe)))
def u4{α0 α1 α2 α3:Type}(a:SPat α0)(b:SPat α1)(c:SPat α2)(d:SPat α3):SPatL (α0×α1×α2×α3×Unit):=xMc a (xMc b (xMc c (xMc d (xMe))))
def u5{α0 α1 α2 α3 α4:Type}(a:SPat α0)(b:SPat α1)(c:SPat α2)(d:SPat α3)(e:SPat α4):SPatL (α0×α1×α2×α3×α4×Unit):=xMc a (xMc b (xMc c (xMc d (xMc e (xMe)))))
def u6{α0 α1 α2 α3 α4 α5:Type}(a:SPat α0)(b:SPat α1)(c:SPat α2)(d:SPat α3)(e:SPat α4)(f:SPat α5):SPatL (α0×α1×α2×α3×α4×α5×Unit):=xMc a (xMc b (xMc c (xMc d (xMc e (xMc f (xMe))))))
def u7{α0 α1 α2 α3 α4 α5 α6:Type}(a:SPat α0)(b:SPat α1)(c:SPat α2)(d:SPat α3)(e:SPat α4)(f:SPat α5)(g:SPat α6):SPatL (α0×α1×α2×α3×α4×α5×α6×Unit):=xMc a (xMc b (xMc c (xMc d (xMc e (xMc f (xMc g (xMe)))))))
def LR.okB:LR->Bool|.leaf e _ _=>(match e with|.normal=>false|_=>true)|.node _ a b=>a.okB&&b.okB
def LR.okB_ne:∀{r:LR},r.okB->r.eval.1≠.normal|.leaf e _ _,h=>λ c=>by have c:e=.normal:=c;subst c;simp[LR.okB]at h|.node true a b,h=>LR.okB_ne (r:=a) (by simp only[LR.okB,zf]at h;exact h.1)|.node false a b,h=>LR.okB_ne (r:=b) (by simp only[LR.okB,zf]at h;exact h.2)
abbrev StT(σ ρ:Type):=σ->Option (σ⊕ρ)
def inL{σ ρ:Type}(s:σ):Option (σ⊕ρ):=some (.inl s)
def inR{σ ρ:Type}(p:ρ):Option (σ⊕ρ):=some (.inr p)
def ixI(l:List AV)(i:Int):Bool:=decide ((0:Int)<=i)&&decide (i<(↑l.length:Int))
def ixS(l:List AV)(i:Int)(s:Sh)(k:Nat):Bool:=decide (i.toNat<l.length)&&xLr s ((l.getD i.toNat .top).cells.getD k .top)
def ixT(l:List AV)(i:Int)(n:Nat)(ss:List Sh)(k:Nat):Bool:=decide (i.toNat<l.length)&&((l.getD i.toNat .top).cells.length==n&&xLz ss (l.getD i.toNat .top).cells k)
def gC(l:List AV)(i:Int)(k:Nat):AV:=(l.getD i.toNat .top).cells.getD k .top
def rmB(n:Nat)(l:List AV)(c z:Nat):Bool:=n==l.length&&(decide ((n+c)*z<=140737488355328)&&decide (n+c<=4611686018427387904))
abbrev RT:=Exit×List AV×List Box
abbrev HL(E:Env)(nt pin:Nat)(ls:List TypeId)(lp:List (Nat×Lp))(fn:Func):Prop:=LoOk Tryz.prog (xMa.at pin) (E.fn nt pin (lsOf ls) (xLQ lp)) (fn.body.getD .skip)
abbrev FX(E:Env)(nt pin:Nat)(ls:List TypeId)(lp:List (Nat×Lp))(fn:Func)(pv:SPatL β)(t:β->(T:Type)->T->(ρ->T)->T)(e:β->ρ->AV):Prop:=∀b,XF Tryz.prog (E.fn nt pin (lsOf ls) (xLQ lp)) fn (fn.body.getD .skip) (pv.enc b)=t b (Option AV) none λ p=>some (e b p)
abbrev FE(t:β->(T:Type)->T->(ρ->T)->T)(e:β->ρ->AV):Prop:=∀b,Enc (e b) (t b (Option ρ) none some) (t b (Option AV) none λ p=>some (e b p))
abbrev MX(E:Env)(nt pin:Nat)(ls:List TypeId)(lp:List (Nat×Lp))(fn:Func)(pv:SPatL β)(pb:Pat (List Box) γ)(t:β->γ->(T:Type)->T->(ρ->T)->T)(e:β->γ->ρ->AV×List Box):Prop:=∀b c,XFM Tryz.prog (E.fn nt pin (lsOf ls) (xLQ lp)) fn (fn.body.getD .skip) (pv.enc b) (pb.enc c)=t b c (Option (AV×List Box)) none λ p=>some (e b c p)
abbrev ME(t:β->γ->(T:Type)->T->(ρ->T)->T)(e:β->γ->ρ->AV×List Box):Prop:=∀b c,Enc (e b c) (t b c (Option ρ) none some) (t b c (Option (AV×List Box)) none λ p=>some (e b c p))
abbrev TX(E:Env)(nt pin:Nat)(ls:List TypeId)(lp:List (Nat×Lp))(fn:Func)(pv:SPatL β)(t:β->(ρ->Option AV)->Option AV)(e:β->ρ->AV):Prop:=∀b,XF Tryz.prog (E.fn nt pin (lsOf ls) (xLQ lp)) fn (fn.body.getD .skip) (pv.enc b)=t b λ p=>some (e b p)
noncomputable abbrev LX(E:Env)(nt pin:Nat)(ls:List TypeId)(lp:List (Nat×Lp))(l:Code)(lv lo:List Nat)(cv:List (Nat×Nat×TypeId))(pv:Pat (List AV) β)(pb:Pat (List Box) γ)(F:β->γ->(σ->Option (σ⊕ρ))×σ×(ρ->LR))(G:β->γ->σ->(β×γ)×((σ->Option RT)->(ρ->Option RT)->Option RT)):Prop:=∀b c s,XR Tryz.prog (E.fn nt pin (lsOf ls) (xLQ lp)) lv lo cv l (pv.enc (G b c s).1.1) (pb.enc (G b c s).1.2)=(G b c s).2 (λ s=>some (encR (λ s=>(pv.enc (G b c s).1.1,pb.enc (G b c s).1.2)) (F b c).2.2 (.inl s))) λ p=>some (encR (λ s=>(pv.enc (G b c s).1.1,pb.enc (G b c s).1.2)) (F b c).2.2 (.inr p))
abbrev LE(pv:Pat (List AV) β)(pb:Pat (List Box) γ)(F:β->γ->(σ->Option (σ⊕ρ))×σ×(ρ->LR))(G:β->γ->σ->(β×γ)×((σ->Option RT)->(ρ->Option RT)->Option RT)):Prop:=∀b c s,Enc (encR (λ s=>(pv.enc (G b c s).1.1,pb.enc (G b c s).1.2)) (F b c).2.2) ((F b c).1 s) ((G b c s).2 (λ s=>some (encR (λ s=>(pv.enc (G b c s).1.1,pb.enc (G b c s).1.2)) (F b c).2.2 (.inl s))) λ p=>some (encR (λ s=>(pv.enc (G b c s).1.1,pb.enc (G b c s).1.2)) (F b c).2.2 (.inr p)))
variable {a:Option α}{b:Option β}
def eV{f:α->β}(Y:Option β)(h:b=Y)(he:Enc f a Y):Enc f a b:=h▸he
abbrev LA:=List AV
variable {P:Program}
def lkN{Inv:IV}{E:Env}:∀c,c∈([]:List Code)->∀lp,E.lp (xLI c)=some lp->LoopOk P Inv E.nt c lp:=λ c h=>by simp at h
def lkC{Inv:IV}{E:Env}{l:Code}{ls:List Code}{lp0:Lp}(hok:LoopOk P Inv E.nt l lp0)(ht:∀c,c∈ls->∀lp,E.lp (xLI c)=some lp->LoopOk P Inv E.nt c lp)(h:E.lp (xLI l)=some lp0:=by kernel_rfl):∀c,c∈l::ls->∀lp,E.lp (xLI c)=some lp->LoopOk P Inv E.nt c lp:=λ c hc lp hs=>by rcases zC.1 hc with rfl|hc;rw[h,z6]at hs;subst hs;exact hok;exact ht c hc lp hs
def eN{f:α->β}:Enc f none b:=Enc.none
def eS{f:α->β}{a:α}{b:β}(h:b=f a):Enc f (some a) (some b):=Enc.some h
def eB{f:α->β}{t:Bool}{a':Option α}{b':Option β}(h1:Enc f a b)(h2:Enc f a' b'):Enc f (br t a a') (br t b b'):=Enc.br h1 h2
def fnO(pv:SPatL β)(t:β->(T:Type)->T->(ρ->T)->T)(e:β->ρ->AV)(d:ρ):List AV->Option (Bool×AV):=ocOf pv λ b=>((t b (Option ρ) none some).isSome,e b ((t b (Option ρ) none some).getD d))
def fmO(pv:SPatL β)(pb:Pat (List Box) γ)(t:β->γ->(T:Type)->T->(ρ->T)->T)(e:β->γ->ρ->AV×List Box)(d:ρ):List AV->List Box->Option (Bool×AV×List Box):=omOf pv pb λ b c=>((t b c (Option ρ) none some).isSome,e b c ((t b c (Option ρ) none some).getD d))
noncomputable def lpO(lv lo:List Nat)(cv:List (Nat×Nat×TypeId))(pv:Pat (List AV) β)(pb:Pat (List Box) γ)(F:β->γ->(σ->Option (σ⊕ρ))×σ×(ρ->LR))(d:ρ):Lp:=lpOf lv lo cv pv pb λ b c=>((Iter (F b c).1 (F b c).2.1).isSome,(F b c).2.2 ((Iter (F b c).1 (F b c).2.1).getD d))
section
variable{E:Env}
def Tot{α:Type}(e:ρ->α)(a:ρ)(x:Option α):Prop:=x=some (e a)
def eT{α:Type}{e:ρ->α}{t:Bool}{a b:ρ}{x y:Option α}(h1:Tot e a x)(h2:Tot e b y):Tot e (br t a b) (br t x y):=by cases t<;>assumption
def eU{α:Type}{e:ρ->α}{a:ρ}{x:α}(h:x=e a):Tot e a (some x):=congrArg some h
def ftO(pv:SPatL β)(f:β->ρ)(e:β->ρ->AV):List AV->Option (Bool×AV):=ocOf pv λ b=>(true,e b (f b))
variable {g:FuncId}
def ftC(h:xLt Tryz.prog xMa E){fn:Func}(hf:Tryz.prog.funcs[g]?=some fn)(nt pin:Nat)(ls:List TypeId)(lp:List (Nat×Lp)){pv:SPatL β}{f:β->ρ}{e:β->ρ->AV}
  (hl:HL E nt pin ls lp fn) (t:β->(ρ->Option AV)->Option AV) (hx:TX E nt pin ls lp fn pv t e:=by intro b;kernel_rfl)
  (he:∀b,Tot (e b) (f b) (t b λ p=>some (e b p)):=by intro b;repeat' first|apply eT|exact eU rfl)
  (hb:fn.body.isSome:=by exact rfl) (hn:(fn.name == "runtime.NumGoroutine")=false:=by kernel_rfl):OcOk Tryz.prog xMa g (ftO pv f e):=xko λ b r hh=>by
 obtain⟨_,h2⟩:=Prod.mk.inj hh;subst h2;exact xlr (p:=pin) (xo4 xLD (xLE Tryz.prog _) rfl h.fn hf hb hn hl ((hx b).trans (he b)))
variable {Inv:IV}{c:Code}
def lk0(h:xLN c=[]:=by kernel_rfl)(hc:((xLJ c).all λ d=>(E.lp (condId d)).isNone):=by kernel_rfl):LoOk Tryz.prog Inv E c:=xfq h hc
def lk1{l:Code}{lp0:Lp}(hok:LoopOk Tryz.prog Inv E.nt l lp0)(h:xLN c=[l]:=by kernel_rfl)(he:E.lp (xLI l)=some lp0:=by kernel_rfl)(hc:((xLJ c).all λ d=>(E.lp (condId d)).isNone):=by kernel_rfl):LoOk Tryz.prog Inv E c:=xnh h (lkC hok lkN he) hc
structure EO where
 E:Env
 ok:xLt Tryz.prog xMa E
def EO.w(e:EO){o:List AV->Option (Bool×AV)}(c:OcOk Tryz.prog xMa g o):EO:=⟨e.E.with g o,e.ok.with c⟩
def EO.wM(e:EO){o:List AV->List Box->Option (Bool×AV×List Box)}(c:OmOk Tryz.prog xMa g o):EO:=⟨e.E.withM g o,e.ok.withM c⟩
variable {d:ρ}
def fnC(h:xLt Tryz.prog xMa E){fn:Func}(hf:Tryz.prog.funcs[g]?=some fn)(nt pin:Nat)(ls:List TypeId)(lp:List (Nat×Lp)){pv:SPatL β}{t:β->(T:Type)->T->(ρ->T)->T}{e:β->ρ->AV}
  (hl:HL E nt pin ls lp fn) (hx:FX E nt pin ls lp fn pv t e:=by intro b;kernel_rfl)
  (he:FE t e:=by intro b;repeat' first|apply eB|exact eN|exact eS rfl)
  (hb:fn.body.isSome:=by exact rfl) (hn:(fn.name == "runtime.NumGoroutine")=false:=by kernel_rfl):OcOk Tryz.prog xMa g (fnO pv t e d):=xko λ b r hh=>by
 obtain⟨h1,h2⟩:=Prod.mk.inj hh;subst h2;exact xlr (p:=pin) (xo4 xLD (xLE Tryz.prog _) rfl h.fn hf hb hn hl ((hx b).trans (he b _ (xce h1))))
variable {pb:Pat (List Box) γ}
def fmC(h:xLt Tryz.prog xMa E){fn:Func}(hf:Tryz.prog.funcs[g]?=some fn)(nt pin:Nat)(ls:List TypeId)(lp:List (Nat×Lp)){pv:SPatL β}{t:β->γ->(T:Type)->T->(ρ->T)->T}{e:β->γ->ρ->AV×List Box}
  (hl:HL E nt pin ls lp fn) (hx:MX E nt pin ls lp fn pv pb t e:=by intro b c;kernel_rfl)
  (he:ME t e:=by intro b c;repeat' first|apply eB|exact eN|exact eS rfl)
  (hp:∀c,(pb.enc c).length=pin:=by exact λ _=>rfl) (hb:fn.body.isSome:=by exact rfl) (hn:(fn.name == "runtime.NumGoroutine")=false:=by kernel_rfl):OmOk Tryz.prog xMa g (fmO pv pb t e d):=xkp λ b c r H' hh=>by
 obtain⟨h1,h2⟩:=Prod.mk.inj hh;exact xlR (p:=pin) (xlQ xLD (xLE Tryz.prog _) rfl h.fn (hp c) hf hb hn hl (((hx b c).trans (he b c _ (xce h1))).trans (congrArg some h2)))
def lpC(h:xLt Tryz.prog xMa E)(nt pin:Nat)(ls:List TypeId)(lp:List (Nat×Lp)){l:Code}{lv lo:List Nat}{cv:List (Nat×Nat×TypeId)}{pv:Pat (List AV) β}{F:β->γ->(σ->Option (σ⊕ρ))×σ×(ρ->LR)}
  (hl:LoOk Tryz.prog (xMa.at pin) (E.fn nt pin (lsOf ls) (xLQ lp)) l) (G:β->γ->σ->(β×γ)×((σ->Option RT)->(ρ->Option RT)->Option RT))
  (hx:LX E nt pin ls lp l lv lo cv pv pb F G:=by intro b c s;kernel_rfl)
  (he:LE pv pb F G:=by intro b c s;repeat' first|apply eB|exact eN|exact eS rfl)
  (hM:∀b c,(G b c (F b c).2.1).1=(b,c):=by exact λ _ _=>rfl) (ho:∀b c r,((F b c).2.2 r).okB:=by exact λ _ _ _=>rfl):LoopOk Tryz.prog (xMa.at pin) nt l (lpO lv lo cv pv pb F d):=xD5 λ b c r hh=>by
 obtain⟨h1,h2⟩:=Prod.mk.inj hh;subst h2;have:=xuS xLD (xLE Tryz.prog _) rfl (h.fn (nt:=nt) (pin:=pin) (ls:=lsOf ls) (lp:=xLQ lp)) hl (λ s=>(pv.enc (G b c s).1.1,pb.enc (G b c s).1.2)) (F b c).2.2 (λ p=>LR.okB_ne (ho b c p)) (λ s r hr=>(hx b c s).trans (he b c s r hr)) (xce (d:=d) h1)
 dsimp only at this;rw[hM b c]at this;exact this
structure LO (pin nt:Nat) (l:Code) where
 lp:Lp
 ok:LoopOk Tryz.prog (xMa.at pin) nt l lp
noncomputable def EO.f(x:EO){fn:Func}(hf:Tryz.prog.funcs[g]?=some fn)(nt pin:Nat)(ls:List TypeId)(lp:List (Nat×Lp))
 (hl:HL x.E nt pin ls lp fn) (pv:SPatL β) (t:β->(T:Type)->T->(ρ->T)->T) (e:β->ρ->AV) (d:ρ) (hx:FX x.E nt pin ls lp fn pv t e:=by intro b;kernel_rfl)
 (he:FE t e:=by intro b;repeat' first|apply eB|exact eN|exact eS rfl)
 (hb:fn.body.isSome:=by exact rfl) (hn:(fn.name == "runtime.NumGoroutine")=false:=by kernel_rfl):EO:=x.w (fnC (d:=d) x.ok hf nt pin ls lp hl hx he hb hn)
noncomputable def EO.fM(x:EO){fn:Func}(hf:Tryz.prog.funcs[g]?=some fn)(nt pin:Nat)(ls:List TypeId)(lp:List (Nat×Lp))
 (hl:HL x.E nt pin ls lp fn) (pv:SPatL β) (pb:Pat (List Box) γ) (t:β->γ->(T:Type)->T->(ρ->T)->T) (e:β->γ->ρ->AV×List Box) (d:ρ) (hx:MX x.E nt pin ls lp fn pv pb t e:=by intro b c;kernel_rfl)
 (he:ME t e:=by intro b c;repeat' first|apply eB|exact eN|exact eS rfl)
 (hp:∀c,(pb.enc c).length=pin:=by exact λ _=>rfl) (hb:fn.body.isSome:=by exact rfl) (hn:(fn.name == "runtime.NumGoroutine")=false:=by kernel_rfl):EO:=x.wM (fmC (d:=d) x.ok hf nt pin ls lp hl hx he hp hb hn)
noncomputable def EO.fT(x:EO){fn:Func}(hf:Tryz.prog.funcs[g]?=some fn)(nt pin:Nat)(ls:List TypeId)(lp:List (Nat×Lp))
 (hl:HL x.E nt pin ls lp fn) (t:β->(ρ->Option AV)->Option AV) (pv:SPatL β) (f:β->ρ) (e:β->ρ->AV) (hx:TX x.E nt pin ls lp fn pv t e:=by intro b;kernel_rfl)
 (he:∀b,Tot (e b) (f b) (t b λ p=>some (e b p)):=by intro b;repeat' first|apply eT|exact eU rfl)
 (hb:fn.body.isSome:=by exact rfl) (hn:(fn.name == "runtime.NumGoroutine")=false:=by kernel_rfl):EO:=x.w (ftC x.ok hf nt pin ls lp hl t hx he hb hn)
noncomputable def EO.l(x:EO)(nt pin:Nat)(ls:List TypeId)(lp:List (Nat×Lp))(fn:Func)(k:Nat)(hl:LoOk Tryz.prog (xMa.at pin) (x.E.fn nt pin (lsOf ls) (xLQ lp)) (xLy fn k))(lv lo:List Nat)(cv:List (Nat×Nat×TypeId))(pv:Pat (List AV) β)(pb:Pat (List Box) γ)(F:β->γ->(σ->Option (σ⊕ρ))×σ×(ρ->LR))(d:ρ)
 (G:β->γ->σ->(β×γ)×((σ->Option RT)->(ρ->Option RT)->Option RT))
 (hx:LX x.E nt pin ls lp (xLy fn k) lv lo cv pv pb F G:=by intro b c s;kernel_rfl)
 (he:LE pv pb F G:=by intro b c s;repeat' first|apply eB|exact eN|exact eS rfl)
 (hM:∀b c,(G b c (F b c).2.1).1=(b,c):=by exact λ _ _=>rfl) (ho:∀b c r,((F b c).2.2 r).okB:=by exact λ _ _ _=>rfl):LO pin nt (xLy fn k):=⟨lpO lv lo cv pv pb F d,lpC x.ok nt pin ls lp hl G hx he hM ho⟩
def lks{ls:List Code}(hl:∀l,l∈ls->∀lp,E.lp (xLI l)=some lp->LoopOk Tryz.prog Inv E.nt l lp)(h:xLN c=ls:=by kernel_rfl)(hc:((xLJ c).all λ d=>(E.lp (condId d)).isNone):=by kernel_rfl):LoOk Tryz.prog Inv E c:=xnh h hl hc
end
end
end Go.Sim
end
noncomputable section
namespace Go.Sim
def sUF:(∀{σ ρ:Type}(s:σ),(inL s:Option (σ⊕ρ))=some (.inl s))/\(∀{σ ρ:Type}(p:ρ),(inR p:Option (σ⊕ρ))=some (.inr p))/\(∀(l:List AV)(i:Int),ixI l i=(decide ((0:Int)<=i)&&decide (i<(↑l.length:Int))))/\(∀(l:List AV)(i:Int)(s:Sh)(k:Nat),ixS l i s k=(decide (i.toNat<l.length)&&xLr s ((l.getD i.toNat .top).cells.getD k .top)))/\(∀(l:List AV)(i:Int)(n:Nat)(ss:List Sh)(k:Nat),ixT l i n ss k=(decide (i.toNat<l.length)&&((l.getD i.toNat .top).cells.length==n&&xLz ss (l.getD i.toNat .top).cells k)))/\(∀(l:List AV)(i:Int)(k:Nat),gC l i k=(l.getD i.toNat .top).cells.getD k .top)/\(∀(n:Nat)(l:List AV)(c z:Nat),rmB n l c z=(n==l.length&&(decide ((n+c)*z<=140737488355328)&&decide (n+c<=4611686018427387904)))):=⟨λ _=>rfl,λ _=>rfl,λ _ _=>rfl,λ _ _ _ _=>rfl,λ _ _ _ _ _=>rfl,λ _ _ _=>rfl,λ _ _ _ _=>rfl⟩
def sBU:((∀{α β:Type}{l:List α}(f:α->β),(l.map f).length=l.length)/\(∀{T:Type}{a b:T},br true a b=a)/\(∀{T:Type}{a b:T},br false a b=b)/\(∀(h:Decidable True),@decide True h)/\(∀(h:Decidable False),@decide False h=false)/\(∀b:Bool,(b&&true)=b)/\(∀b:Bool,(true&&b)=b)/\((!true)=false)/\((!false))/\(∀n:Nat,(n:Int).toNat=n)/\(∀n:Nat,(0:Int)<=(n:Int))/\(∀{α:Type}{a:α},(some a).isSome)/\(∀{α:Type}{a b:α},(some a).getD b=a)/\(∀{α:Type}[BEq α][ReflBEq α](a:α),(a==a))/\(∀n:Nat,0+n=n)/\(∀n:Nat,n - 0=n))/\(∀{σ ρ:Type}(s:σ),(inL s:Option (σ⊕ρ))=some (.inl s))/\(∀{σ ρ:Type}(p:ρ),(inR p:Option (σ⊕ρ))=some (.inr p))/\(∀(l:List AV)(i:Int),ixI l i=(decide ((0:Int)<=i)&&decide (i<(↑l.length:Int))))/\(∀(l:List AV)(i:Int)(s:Sh)(k:Nat),ixS l i s k=(decide (i.toNat<l.length)&&xLr s ((l.getD i.toNat .top).cells.getD k .top)))/\(∀(l:List AV)(i:Int)(n:Nat)(ss:List Sh)(k:Nat),ixT l i n ss k=(decide (i.toNat<l.length)&&((l.getD i.toNat .top).cells.length==n&&xLz ss (l.getD i.toNat .top).cells k)))/\(∀(l:List AV)(i:Int)(k:Nat),gC l i k=(l.getD i.toNat .top).cells.getD k .top)/\(∀(n:Nat)(l:List AV)(c z:Nat),rmB n l c z=(n==l.length&&(decide ((n+c)*z<=140737488355328)&&decide (n+c<=4611686018427387904)))):=⟨⟨za,rfl,rfl,λ h=>by simp,λ h=>by simp,zS,Bool.true_and,rfl,rfl,zN,Int.natCast_nonneg,rfl,rfl,λ a=>beq_self_eq_true a,zH,Nat.sub_zero⟩,sUF⟩
def sOO:(∀{α:Type}{l:List α},l.drop 0=l)/\(∀{α:Type}{l:List α}{i:Nat},l.length<=i->l.take i=l)/\(∀n:Nat,0+n=n)/\(∀{α β:Type}{l:List α}(f:α->β),(l.map f).length=l.length)/\(∀n:Nat,n<=n)/\(∀(h:Decidable True),@decide True h)/\(∀b:Bool,(b&&true)=b)/\(∀{T:Type}{a b:T},br true a b=a)/\(∀{α:Type}{a:α},(some a).isSome)/\(∀{α:Type}{a b:α},(some a).getD b=a):=⟨zr,zi,zH,za,zd,λ h=>by simp,zS,rfl,rfl,rfl⟩
end Go.Sim
noncomputable def Go.Sim.M.xJj:Go.Sim.EO:=Go.Sim.EO.mk Go.Sim.M.E0 Go.Sim.M.xJk
end
noncomputable section
set_option maxRecDepth 100000
namespace Go.Sim.M
open Go.IntKind (i64 u64 u8)
open Go.RowKit Go.Proofs
def xcc{T:Type}(a:List UInt8)(δ:T)(κ:Int×Nat×LA->T):T:=br (decide ((byteAVs a).length*1<=140737488355328)&&decide ((byteAVs a).length<=4611686018427387904)) (κ ((↑a.length:Int),(byteAVs a).length,byteAVs a)) δ
def xar(a:List UInt8):=xcc a none some
def xJm:EO:=xJj.fM Tryz.func94 19 1 [] [] lk0 (u2 (sEq (xMo 0 0 0 0)) (sEq pStr)) (q1 (qB 0 2 111 (q1 (xMp (q2 pNilptr pNils))))) (λ(_,a,_) (((_,_,_),_),_) _=>xcc a) (λ _ _ p=>(AV.tuple [AV.int .i64 p.1,.top],([⟨0,2,111,[AV.agg [AV.own 0 0 0 0,AV.osl 1 0 0 p.2.1]],false,false⟩,bF 0 1 5 p.2.2]:List Box))) (0,0,[])
def xds{T:Type}(a:List UInt8)(n:Nat)(b:LA)(δ:T)(κ:Int×Nat×LA->T):T:=br (n==b.length&&(decide ((n+(byteAVs a).length)*1<=140737488355328)&&decide (n+(byteAVs a).length<=4611686018427387904))) (κ ((↑a.length:Int),n+(byteAVs a).length,b++byteAVs a)) δ
def xap(a:List UInt8)(n:Nat)(b:LA):=xds a n b none some
def xJn:EO:=xJm.fM Tryz.func94 19 2 [] [] lk0 (u2 (sEq (xMo 0 0 0 0)) (sEq pStr)) (q2 (xMq 0 2 111 false false (q1 (xMp (q2 (xMo 0 0 0 0) (xMn 1 0 0))))) (qB 0 1 5 xMf)) (λ(_,a,_) (((_,n,_),_),b,_) _=>xds a n b) (λ _ _ p=>(AV.tuple [AV.int .i64 p.1,.top],([⟨0,2,111,[AV.agg [AV.own 0 0 0 0,AV.osl 1 1 0 p.2.1]],false,false⟩,bF 1 1 5 p.2.2]:List Box))) (0,0,[])
def xlJ{T:Type}(a:List UInt8)(n:Nat)(b:LA)(δ:T)(κ:Int×Nat×LA->T):T:=br (n==b.length&&(decide ((n+(byteAVs a).length)*1<=140737488355328)&&decide (n+(byteAVs a).length<=4611686018427387904))) (κ ((↑a.length:Int),n+(byteAVs a).length,b++byteAVs a)) δ
def xBG:EO:=xJn.fM Tryz.func94 19 2 [] [] lk0 (u2 (sEq (xMo 0 0 0 0)) (sEq pStr)) (q2 (xMq 0 2 111 false false (q1 (xMp (q2 (xMo 0 0 0 0) (xMn 1 1 0))))) (qB 1 1 5 xMf)) (λ(_,a,_) (((_,n,_),_),b,_) _=>xlJ a n b) (λ _ _ p=>(AV.tuple [AV.int .i64 p.1,.top],([⟨0,2,111,[AV.agg [AV.own 0 0 0 0,AV.osl 1 2 0 p.2.1]],false,false⟩,bF 2 1 5 p.2.2]:List Box))) (0,0,[])
def xaW:Env:=xBG.E.fn 17 1 (lsOf []) (xLQ [])
def xk6:xLt P0 (xMa.at 1) xaW:=xBG.ok.fn
def xkD:LoOk P0 (xMa.at xaW.pin) xaW (Tryz.f96.body.getD .skip):=xfq (by kernel_rfl)
def xe0(c:Int):Int:=((c))
def xgo(c:Int):Bool:=true
def xhk{T:Type}(c:Int)(δ:T)(κ:Int->T):T:=κ (c)
def xm9(c:Int):Pre (xgo c) (XFM P0 xaW Tryz.f96 (Tryz.f96.body.getD .skip) [AV.own (0:Id) 0 0 0,AV.int .u8 c] [{ver:=0,sz:=2,ty:=(111:TypeId),xs:=[AV.agg [AV.nilptr,AV.nils]],frz:=false,pm:=true}]) ((.top,([⟨0,2,111,[AV.agg [AV.own 0 0 0 0,AV.osl 1 0 0 1]],false,false⟩,⟨0,1,5,[AV.int .u8 (xe0 c)],false,true⟩]:List Box))):=by(have h:XFM P0 xaW Tryz.f96 (Tryz.f96.body.getD .skip) [AV.own (0:Id) 0 0 0,AV.int .u8 c] [{ver:=0,sz:=2,ty:=(111:TypeId),xs:=[AV.agg [AV.nilptr,AV.nils]],frz:=false,pm:=true}]=xhk c none (λ(p:Int)=>some (((.top,([⟨0,2,111,[AV.agg [AV.own 0 0 0 0,AV.osl 1 0 0 1]],false,false⟩,⟨0,1,5,[AV.int .u8 p],false,true⟩]:List Box))):(AV×List Box))):=by kernel_rfl);rw[h];unfold xe0 xgo xhk;repeat' (first|exact Pre.none|exact Pre.tt rfl|exact Pre.some rfl|refine Pre.l ?_|refine Pre.r ?_|refine Pre.br (f:=λ(p:Int)=>(((.top,([⟨0,2,111,[AV.agg [AV.own 0 0 0 0,AV.osl 1 0 0 1]],false,false⟩,⟨0,1,5,[AV.int .u8 p],false,true⟩]:List Box))):(AV×List Box))) ?_ ?_|refine Pre.brt (f:=λ(p:Int)=>(((.top,([⟨0,2,111,[AV.agg [AV.own 0 0 0 0,AV.osl 1 0 0 1]],false,false⟩,⟨0,1,5,[AV.int .u8 p],false,true⟩]:List Box))):(AV×List Box))) ?_ ?_)
def xm8:LA->List Box->Option (Bool×AV×List Box):=omOf (xMc (sEq (xMo 0 0 0 0)) (xMc (sEq (pInt .u8)) xMe)) (xMb (xMq 0 2 (111:TypeId) false true (xMb (xMp (xMb pNilptr (xMb pNils xMd))) xMd)) xMd) λ(_,(c,_)) (((_,(_,_)),_),_)=>(true,((.top,([⟨0,2,111,[AV.agg [AV.own 0 0 0 0,AV.osl 1 0 0 1]],false,false⟩,⟨0,1,5,[AV.int .u8 (xe0 c)],false,true⟩]:List Box))))
def xm7:OmOk P0 xMa 96 (xm8):=xkp λ b d h f e=>by obtain⟨_,⟨c,_⟩⟩:=b;obtain⟨⟨⟨_,⟨_,_⟩⟩,_⟩,_⟩:=d;obtain⟨g,a⟩:=Prod.mk.inj e;refine xlR (p:=xaW.pin) (xlQ xLD (xLE P0 _) rfl xk6 rfl Tryz.func96 rfl (by kernel_rfl) xkD ((Pre.get (xm9 _) rfl).trans ?_));exact congrArg some a
def xJo:EO:=xBG.wM xm7
def xg9{T:Type}(c:Int)(n:Nat)(a:LA)(δ:T)(κ:Nat×LA->T):T:=br (rmB n a 1 1) (κ (n+1,a++[AV.int .u8 c])) δ
def xc9(c:Int)(n:Nat)(a:LA):=xg9 c n a none some
def xJp:EO:=xJo.fM Tryz.func96 17 2 [] [] lk0 (u2 (sEq (xMo 0 0 0 0)) (sEq (pInt .u8))) (q2 (xMq 0 2 111 false false (q1 (xMp (q2 (xMo 0 0 0 0) (xMn 1 0 0))))) (qB 0 1 5 xMf)) (λ(_,c,_) (((_,n,_),_),a,_) _=>xg9 c n a) (λ _ _ p=>(.top,([⟨0,2,111,[AV.agg [AV.own 0 0 0 0,AV.osl 1 1 0 p.1]],false,false⟩,bF 1 1 5 p.2]:List Box))) (0,[])
def xd4{T:Type}(c:Int)(n:Nat)(a:LA)(δ:T)(κ:Nat×LA->T):T:=br (rmB n a 1 1) (κ (n+1,a++[AV.int .u8 c])) δ
def xda(c:Int)(n:Nat)(a:LA):=xd4 c n a none some
def xJq:EO:=xJp.fM Tryz.func96 17 2 [] [] lk0 (u2 (sEq (xMo 0 0 0 0)) (sEq (pInt .u8))) (q2 (xMq 0 2 111 false false (q1 (xMp (q2 (xMo 0 0 0 0) (xMn 1 1 0))))) (qB 1 1 5 xMf)) (λ(_,c,_) (((_,n,_),_),a,_) _=>xd4 c n a) (λ _ _ p=>(.top,([⟨0,2,111,[AV.agg [AV.own 0 0 0 0,AV.osl 1 2 0 p.1]],false,false⟩,bF 2 1 5 p.2]:List Box))) (0,[])
def xf8(a b:Int):Bool:=(br (decide (a>=0)) (br (decide (a<b)) ((decide (b<=1099511627776))) ((false))) ((false)))
def xvZ{T:Type}(a b:Int)(δ:T)(κ:Bool->T):T:=br (decide (a>=0)) (br (decide (a<b)) (κ (decide (b<=1099511627776))) (κ (false))) (κ (false))
def xBH:EO:=xJq.fT Tryz.func111 18 0 [] [] lk0 (λ((a,b,_),_)=>xvZ a b none) (u1 (xMs (u2 uI uI))) (λ((a,b,_),_)=>xf8 a b) (λ _ p=>(AV.bool p))
def xeO(b:Int)(a:LA):=((a.getD (0+b.toNat) .top).cells.getD 0 .top).toInt
def xjB(d:Int)(c:Nat)(b a:LA):=((xap (Lib.itoa (xeO d b)) c a).getD (0,0,[])).snd
def xjA(d:Int)(c:Nat)(b a:LA):=xda 32 (xjB d c b a).fst (xjB d c b a).snd
def xjz(d:Int)(c:Nat)(b a:LA):=(xjA d c b a).getD (0,[])
def xhm{T:Type}(k:LA)(l j:Int)(e:Nat)(i c:Int)(d:Nat)(f g:Int)(h:List UInt8)(a b:LA)(δ:T)(κl:(Int×Nat×Int×Int×List UInt8×LA×LA)->T)(κr:(Nat×Int×Int×List UInt8×LA)->T):T:=br (decide (c<i)) (br (decide (0<=c)&&decide (c<(↑e:Int))) (br (decide (0+c.toNat<a.length)&&xLr (Sh.int .i64) ((a.getD (0+c.toNat) .top).cells.getD 0 .top)) (br (decide ((-9223372036854775808)<=xeO c a)&&decide (xeO c a<=9223372036854775807)) (br ((xap (Lib.itoa (xeO c a)) d b).isSome) (br ((xjA c d a b).isSome) (κl (i64.wrap (c+1),(xjz c d a b).fst,f,g,h,a,(xjz c d a b).snd)) δ) δ) δ) δ) δ) (κr (d,f,g,h,b))
def xa3(k:LA)(l e:Int)(c:Nat)(f:Int):StT (Int×Nat×Int×Int×List UInt8×LA×LA) (Nat×Int×Int×List UInt8×LA):=λ(g,d,h,i,j,b,a)=>xhm k l e c f g d h i j b a none inL inR
def xgA:=xBH.l 37 0 [] [] Tryz.f141 1 lk0 [3,5,8,9,10,21,22,23] [3,5,8,9,10] [] (q8 (xMo 0 0 0 0) (xMo 1 0 0 0) (qL 3) qI qI (xMn 2 0 0) qI qI) (q4 (xMq 0 2 111 false false (q1 (xMp (q2 (xMo 0 0 0 0) (xMn 3 0 0))))) (qB 0 3 87 (q1 (xMp (q3 qI qI pStr)))) (qB 0 1 3 xMf) (qB 0 1 5 xMf)) (λ(_,_,k,m,e,c,f,g,_) (((_,d,_),_),((h,i,j,_),_),b,a,_)=>(xa3 k m e c f,(g,d,h,i,j,b,a),λ p=>(.leaf (.exit 2) [AV.own 0 0 0 0,AV.own 1 0 0 0,AV.list 3 k,AV.int .i64 m,AV.int .i64 e] [⟨0,2,111,[AV.agg [AV.own 0 0 0 0,AV.osl 2 0 0 p.1]],false,false⟩,bF 0 3 87 [AV.agg [AV.int .i64 p.2.1,AV.int .i64 p.2.2.1,AV.str p.2.2.2.1]],bF 0 1 5 p.2.2.2.2]))) (0,0,0,[],[]) λ(_,_,k,m,e,c,f,_,_) _ (g,d,h,i,j,b,a)=>((((),(),k,m,e,c,f,g,()),((((),d,()),()),((h,i,j,()),()),b,a,())),xhm k m e c f g d h i j b a none)
def xjy(b:LA)(e a:Int)(d:Nat)(c:LA):=Iter (xa3 b e a 3 3) (0,d,(gC b a 0).toInt,(gC b a 1).toInt,(gC b a 2).toStr,[AV.int .i64 (gC b a 0).toInt,AV.int .i64 (gC b a 1).toInt,AV.int .i64 (↑(gC b a 2).toStr.length:Int)],c)
def xgz(d:LA)(e c:Int)(b:Nat)(a:LA):=(xjy d e c b a).getD (0,0,0,[],[])
def xjw(d:LA)(e c:Int)(b:Nat)(a:LA):=xap ((xgz d e c b a).snd.snd.snd).fst (xgz d e c b a).fst ((xgz d e c b a).snd.snd.snd).snd
def xjv(d:LA)(e c:Int)(b:Nat)(a:LA):=((xjw d e c b a).getD (0,0,[])).snd
def xhl{T:Type}(d:LA)(e b:Int)(c:Nat)(a:LA)(δ:T)(κl:(Int×Nat×LA)->T)(κr:(Nat×LA)->T):T:=br (decide (b<e)) (br (ixI d b) (br (ixT d b 3 [Sh.int .i64,Sh.int .i64,Sh.str] 0) (br ((xjy d e b c a).isSome) (br ((xjw d e b c a).isSome) (κl (i64.wrap (b+1),(xjv d e b c a).fst,(xjv d e b c a).snd)) δ) δ) δ) δ) (κr (c,a))
def xcR(d:LA)(e:Int):StT (Int×Nat×LA) (Nat×LA):=λ(c,b,a)=>xhl d e c b a none inL inR
def xnU:=xBH.l 37 0 [] [(6,xgA.lp)] Tryz.f141 0 (lk1 xgA.ok) [3,8,9,10] [3] [] (q4 (xMo 0 0 0 0) (qL 3) qI qI) (q2 (xMq 0 2 111 false false (q1 (xMp (q2 (xMo 0 0 0 0) (xMn 1 0 0))))) (qB 0 1 5 xMf)) (λ(_,d,e,c,_) (((_,b,_),_),a,_)=>(xcR d e,(c,b,a),λ p=>(.leaf (.exit 0) [AV.own 0 0 0 0] [⟨0,2,111,[AV.agg [AV.own 0 0 0 0,AV.osl 1 0 0 p.1]],false,false⟩,bF 0 1 5 p.2]))) (0,[]) λ(_,d,e,_,_) _ (c,b,a)=>((((),d,e,c,()),((((),b,()),()),a,())),xhl d e c b a none)
def xcB(a:LA):=((a.getD 0 .top).cells.getD 0 .top).toInt
def xmj(a:LA):=xc9 32 ((xar (Lib.itoa (xcB a))).getD (0,0,[])).snd.fst ((xar (Lib.itoa (xcB a))).getD (0,0,[])).snd.snd
def xmi(a:LA):=(xmj a).getD (0,[])
def xmh(a:LA):=Iter (xa3 a (↑a.length:Int) 0 3 3) (1,(xmi a).fst,xcB a,((a.getD 0 .top).cells.getD 1 .top).toInt,((a.getD 0 .top).cells.getD 2 .top).toStr,[AV.int .i64 (xcB a),AV.int .i64 ((a.getD 0 .top).cells.getD 1 .top).toInt,AV.int .i64 (↑((a.getD 0 .top).cells.getD 2 .top).toStr.length:Int)],(xmi a).snd)
def xiJ(a:LA):=(xmh a).getD (0,0,0,[],[])
def xmg(a:LA):=xap ((xiJ a).snd.snd.snd).fst (xiJ a).fst ((xiJ a).snd.snd.snd).snd
def xmf(a:LA):=((xmg a).getD (0,0,[])).snd
def xme(a:LA):=Iter (xcR a (↑a.length:Int)) (1,(xmf a).fst,(xmf a).snd)
def xe9(a:LA):=(xme a).getD (0,[])
def xnf{T:Type}(a:LA)(δ:T)(κ:List UInt8->T):T:=br (decide (0<(↑a.length:Int))) (br (decide (0<(↑a.length:Int))) (br (decide (0<a.length)&&((a.getD 0 .top).cells.length==3&&xLz [Sh.int .i64,Sh.int .i64,Sh.str] (a.getD 0 .top).cells 0)) (br (decide ((-9223372036854775808)<=xcB a)&&decide (xcB a<=9223372036854775807)) (br ((xar (Lib.itoa (xcB a))).isSome) (br ((xmj a).isSome) (br ((xmh a).isSome) (br ((xmg a).isSome) (br ((xme a).isSome) (br (decide ((xe9 a).fst=((xe9 a).snd).length)&&isBytes ((xe9 a).snd)&&decide (((xe9 a).snd).length≠0)) (κ (strOf ((xe9 a).snd))) δ) δ) δ) δ) δ) δ) δ) δ) δ) (κ ([]))
def xju(a:LA):=xnf a none some
def xBI:EO:=xBH.f Tryz.func141 37 0 [] [(6,xgA.lp),(3,xnU.lp)] (lks (lkC xnU.ok (lkC xgA.ok lkN))) (u1 (uL 3)) (λ(a,_) _=>xnf a) (λ _ p=>AV.str p) []
def xgY(b:Int)(a:LA):=((a.getD (0+b.toNat) .top).cells.getD 0 .top).toInt
def xmU(d:Int)(c:Nat)(b a:LA):=((xap (Lib.itoa (xgY d b)) c a).getD (0,0,[])).snd
def xmT(d:Int)(c:Nat)(b a:LA):=xda 32 (xmU d c b a).fst (xmU d c b a).snd
def xmS(d:Int)(c:Nat)(b a:LA):=(xmT d c b a).getD (0,[])
def xkA{T:Type}(k:LA)(l j:Int)(e:Nat)(i c:Int)(d:Nat)(f g:Int)(h:List UInt8)(a b:LA)(δ:T)(κl:(Int×Nat×Int×Int×List UInt8×LA×LA)->T)(κr:(Nat×Int×Int×List UInt8×LA)->T):T:=br (decide (c<i)) (br (decide (0<=c)&&decide (c<(↑e:Int))) (br (decide (0+c.toNat<a.length)&&xLr (Sh.int .i64) ((a.getD (0+c.toNat) .top).cells.getD 0 .top)) (br (decide ((-9223372036854775808)<=xgY c a)&&decide (xgY c a<=9223372036854775807)) (br ((xap (Lib.itoa (xgY c a)) d b).isSome) (br ((xmT c d a b).isSome) (κl (i64.wrap (c+1),(xmS c d a b).fst,f,g,h,a,(xmS c d a b).snd)) δ) δ) δ) δ) δ) (κr (d,f,g,h,b))
def xbI(k:LA)(l e:Int)(c:Nat)(f:Int):StT (Int×Nat×Int×Int×List UInt8×LA×LA) (Nat×Int×Int×List UInt8×LA):=λ(g,d,h,i,j,b,a)=>xkA k l e c f g d h i j b a none inL inR
def xjg:=xBI.l 37 0 [] [] Tryz.f62 1 lk0 [3,5,8,9,10,21,22,23] [3,5,8,9,10] [] (q8 (xMo 0 0 0 0) (xMo 1 0 0 0) (qL 3) qI qI (xMn 2 0 0) qI qI) (q4 (xMq 0 2 111 false false (q1 (xMp (q2 (xMo 0 0 0 0) (xMn 3 0 0))))) (qB 0 3 87 (q1 (xMp (q3 qI qI pStr)))) (qB 0 1 3 xMf) (qB 0 1 5 xMf)) (λ(_,_,k,m,e,c,f,g,_) (((_,d,_),_),((h,i,j,_),_),b,a,_)=>(xbI k m e c f,(g,d,h,i,j,b,a),λ p=>(.leaf (.exit 2) [AV.own 0 0 0 0,AV.own 1 0 0 0,AV.list 3 k,AV.int .i64 m,AV.int .i64 e] [⟨0,2,111,[AV.agg [AV.own 0 0 0 0,AV.osl 2 0 0 p.1]],false,false⟩,bF 0 3 87 [AV.agg [AV.int .i64 p.2.1,AV.int .i64 p.2.2.1,AV.str p.2.2.2.1]],bF 0 1 5 p.2.2.2.2]))) (0,0,0,[],[]) λ(_,_,k,m,e,c,f,_,_) _ (g,d,h,i,j,b,a)=>((((),(),k,m,e,c,f,g,()),((((),d,()),()),((h,i,j,()),()),b,a,())),xkA k m e c f g d h i j b a none)
def xmR(b:LA)(e a:Int)(d:Nat)(c:LA):=Iter (xbI b e a 3 3) (0,d,(gC b a 0).toInt,(gC b a 1).toInt,(gC b a 2).toStr,[AV.int .i64 (gC b a 0).toInt,AV.int .i64 (gC b a 1).toInt,AV.int .i64 (↑(gC b a 2).toStr.length:Int)],c)
def xjf(d:LA)(e c:Int)(b:Nat)(a:LA):=(xmR d e c b a).getD (0,0,0,[],[])
def xmQ(d:LA)(e c:Int)(b:Nat)(a:LA):=xap ((xjf d e c b a).snd.snd.snd).fst (xjf d e c b a).fst ((xjf d e c b a).snd.snd.snd).snd
def xmP(d:LA)(e c:Int)(b:Nat)(a:LA):=((xmQ d e c b a).getD (0,0,[])).snd
def xkz{T:Type}(d:LA)(e b:Int)(c:Nat)(a:LA)(δ:T)(κl:(Int×Nat×LA)->T)(κr:(Nat×LA)->T):T:=br (decide (b<e)) (br (ixI d b) (br (ixT d b 3 [Sh.int .i64,Sh.int .i64,Sh.str] 0) (br ((xmR d e b c a).isSome) (br ((xmQ d e b c a).isSome) (κl (i64.wrap (b+1),(xmP d e b c a).fst,(xmP d e b c a).snd)) δ) δ) δ) δ) (κr (c,a))
def xd8(d:LA)(e:Int):StT (Int×Nat×LA) (Nat×LA):=λ(c,b,a)=>xkz d e c b a none inL inR
def xp8:=xBI.l 37 0 [] [(6,xjg.lp)] Tryz.f62 0 (lk1 xjg.ok) [3,8,9,10] [3] [] (q4 (xMo 0 0 0 0) (qL 3) qI qI) (q2 (xMq 0 2 111 false false (q1 (xMp (q2 (xMo 0 0 0 0) (xMn 1 0 0))))) (qB 0 1 5 xMf)) (λ(_,d,e,c,_) (((_,b,_),_),a,_)=>(xd8 d e,(c,b,a),λ p=>(.leaf (.exit 0) [AV.own 0 0 0 0] [⟨0,2,111,[AV.agg [AV.own 0 0 0 0,AV.osl 1 0 0 p.1]],false,false⟩,bF 0 1 5 p.2]))) (0,[]) λ(_,d,e,_,_) _ (c,b,a)=>((((),d,e,c,()),((((),b,()),()),a,())),xkz d e c b a none)
def xee(a:LA):=((a.getD 0 .top).cells.getD 0 .top).toInt
def xpL(a:LA):=xc9 32 ((xar (Lib.itoa (xee a))).getD (0,0,[])).snd.fst ((xar (Lib.itoa (xee a))).getD (0,0,[])).snd.snd
def xpK(a:LA):=(xpL a).getD (0,[])
def xpJ(a:LA):=Iter (xbI a (↑a.length:Int) 0 3 3) (1,(xpK a).fst,xee a,((a.getD 0 .top).cells.getD 1 .top).toInt,((a.getD 0 .top).cells.getD 2 .top).toStr,[AV.int .i64 (xee a),AV.int .i64 ((a.getD 0 .top).cells.getD 1 .top).toInt,AV.int .i64 (↑((a.getD 0 .top).cells.getD 2 .top).toStr.length:Int)],(xpK a).snd)
def xmV(a:LA):=(xpJ a).getD (0,0,0,[],[])
def xpI(a:LA):=xap ((xmV a).snd.snd.snd).fst (xmV a).fst ((xmV a).snd.snd.snd).snd
def xpH(a:LA):=((xpI a).getD (0,0,[])).snd
def xpG(a:LA):=Iter (xd8 a (↑a.length:Int)) (1,(xpH a).fst,(xpH a).snd)
def xhY(a:LA):=(xpG a).getD (0,[])
def xqB{T:Type}(a:LA)(δ:T)(κ:List UInt8->T):T:=br (decide (0<(↑a.length:Int))) (br (decide (0<(↑a.length:Int))) (br (decide (0<a.length)&&((a.getD 0 .top).cells.length==3&&xLz [Sh.int .i64,Sh.int .i64,Sh.str] (a.getD 0 .top).cells 0)) (br (decide ((-9223372036854775808)<=xee a)&&decide (xee a<=9223372036854775807)) (br ((xar (Lib.itoa (xee a))).isSome) (br ((xpL a).isSome) (br ((xpJ a).isSome) (br ((xpI a).isSome) (br ((xpG a).isSome) (br (decide ((xhY a).fst=((xhY a).snd).length)&&isBytes ((xhY a).snd)&&decide (((xhY a).snd).length≠0)) (κ (strOf ((xhY a).snd))) δ) δ) δ) δ) δ) δ) δ) δ) δ) (κ ([]))
def xat(a:LA):=xqB a none some
def xul:EO:=xBI.f Tryz.func62 37 0 [] [(6,xjg.lp),(3,xp8.lp)] (lks (lkC xp8.ok (lkC xjg.ok lkN))) (u1 (uL 3)) (λ(a,_) _=>xqB a) (λ _ p=>AV.str p) []
def xfV(x:Int):Bool:=((x !=x))
def xAb{T:Type}(x:Int)(δ:T)(κ:Bool->T):T:=κ (x !=x)
def xJr:EO:=xul.fT Tryz.func138 6 0 [] [] lk0 (λ(x,_)=>xAb x none) (u1 uI) (λ(x,_)=>xfV x) (λ _ p=>(AV.bool p))
def xcN(x y:Int):Int:=(br (xfV x) (br (xfV y) ((0)) (((-1)))) (br (xfV y) ((1)) (br (decide (x<y)) (((-1))) (br (decide (x>y)) ((1)) ((0))))))
def xw7{T:Type}(x y:Int)(δ:T)(κ:Int->T):T:=br (xfV x) (br (xfV y) (κ (0)) (κ ((-1)))) (br (xfV y) (κ (1)) (br (decide (x<y)) (κ ((-1))) (br (decide (x>y)) (κ (1)) (κ (0)))))
def xBJ:EO:=xJr.fT Tryz.func110 20 0 [] [] lk0 (λ(x,y,_)=>xw7 x y none) (u2 uI uI) (λ(x,y,_)=>xcN x y) (λ _ p=>(AV.int .i64 p))
def xjq:Env:=xBJ.E.fn 18 0 (lsOf []) (xLQ [])
def xyN:xLt P0 (xMa.at 0) xjq:=xBJ.ok.fn
def xuA:LoOk P0 (xMa.at xjq.pin) xjq (Tryz.f109.body.getD .skip):=xnh (ls:=[xLy Tryz.f109 0]) (by kernel_rfl) (fun l a lp b=>by
 simp only[zC,List.not_mem_nil,or_false]at a;rcases a with rfl
 . rw[show xjq.lp (xLI (xLy Tryz.f109 0))=none by kernel_rfl]at b
   simp at b)
def xpc(a b c:Int):Int:=(br (a !=0) ((a)) (br (b !=0) ((b)) (br (c !=0) ((c)) ((0)))))
def xuB(a b c:Int):Bool:=true
def xyO{T:Type}(a b c:Int)(δ:T)(κ:Int->T):T:=br (a !=0) (κ (a)) (br (b !=0) (κ (b)) (br (c !=0) (κ (c)) (κ (0))))
def xE6(a b c:Int):Pre (xuB a b c) (XF P0 xjq Tryz.f109 (Tryz.f109.body.getD .skip) [AV.list 1 [AV.int .i64 a,AV.int .i64 b,AV.int .i64 c]]) (AV.int .i64 (xpc a b c)):=by(have h:XF P0 xjq Tryz.f109 (Tryz.f109.body.getD .skip) [AV.list 1 [AV.int .i64 a,AV.int .i64 b,AV.int .i64 c]]=xyO a b c none (λ(p:Int)=>some ((AV.int .i64 p):AV)):=by kernel_rfl);rw[h];unfold xpc xuB xyO;repeat' (first|exact Pre.none|exact Pre.tt rfl|exact Pre.some rfl|refine Pre.l ?_|refine Pre.r ?_|refine Pre.br (f:=λ(p:Int)=>((AV.int .i64 p):AV)) ?_ ?_|refine Pre.brt (f:=λ(p:Int)=>((AV.int .i64 p):AV)) ?_ ?_)
def xE5:LA->Option (Bool×AV):=ocOf (xMc (xMr 1 (xMb (pInt .i64) (xMb (pInt .i64) (xMb (pInt .i64) xMd)))) xMe) λ((a,(b,(c,_))),_)=>(true,(AV.int .i64 (xpc a b c)))
def xE4:OcOk P0 xMa 109 (xE5):=xko λ e h f=>by obtain⟨⟨a,⟨b,⟨c,_⟩⟩⟩,_⟩:=e;obtain⟨g,d⟩:=Prod.mk.inj f;refine xlr (p:=xjq.pin) (xo4 xLD (xLE P0 _) rfl xyN Tryz.func109 rfl (by kernel_rfl) xuA ((Pre.get (xE6 _ _ _) rfl).trans ?_));exact congrArg some d
def xJs:EO:=xBJ.w xE4
def xba(a b:Int)(c:List UInt8)(d e:Int)(f:List UInt8):Int:=((xpc (xcN a d) (xcN b e) (Lib.compareBytes c f)))
def xvy{T:Type}(a b:Int)(c:List UInt8)(d e:Int)(f:List UInt8)(δ:T)(κ:Int->T):T:=κ (xpc (xcN a d) (xcN b e) (Lib.compareBytes c f))
def xGb:EO:=xJs.fT Tryz.func173 22 0 [] [] lk0 (λ((a,b,c,_),(d,e,f,_),_)=>xvy a b c d e f none) (u2 (xMs (u3 uI uI (sEq pStr))) (xMs (u3 uI uI (sEq pStr)))) (λ((a,b,c,_),(d,e,f,_),_)=>xba a b c d e f) (λ _ p=>(AV.int .i64 p))
def xbP(c b:LA)(a:Int):=xba (gC b a 0).toInt (gC b a 1).toInt (gC b a 2).toStr (gC c a 0).toInt (gC c a 1).toInt (gC c a 2).toStr
def xb0{T:Type}(e c b:LA)(d a:Int)(δ:T)(κl:(Int)->T)(κr:(Bool×(Int)×(Unit))->T):T:=br (decide (a<d)) (br (ixI b a) (br (ixT b a 3 [Sh.int .i64,Sh.int .i64,Sh.str] 0) (br (decide (a>=c.length)) (κr (true,(1),())) (br (ixI c a) (br (ixT c a 3 [Sh.int .i64,Sh.int .i64,Sh.str] 0) (br (xbP c b a !=0) (κr (true,(xbP c b a),())) (κl (i64.wrap (a+1)))) δ) δ)) δ) δ) (κr (false,0,()))
def xaE(d e a:LA)(b:Int):StT (Int) (Bool×(Int)×(Unit)):=λ(c)=>xb0 d e a b c none inL inR
def xj0:=xGb.l 39 0 [] [] Tryz.f172 0 lk0 [0,1,2,11,12,13] [0,1,6] [] (q6 (qL 3) (qL 3) (xLR 173 xMd) (qL 3) qI qI) xMd (λ(d,e,_,a,b,c,_) _=>(xaE d e a b,(c),λ p=>(.node p.1 (.leaf .ret [AV.list 3 d,AV.list 3 e,AV.int .i64 p.2.1] []) (.leaf (.exit 0) [AV.list 3 d,AV.list 3 e,.top] [])))) (false,0,()) λ(d,e,_,a,b,_,_) _ (c)=>(((d,e,(),a,b,c,()),()),xb0 d e a b c none)
def xio{T:Type}(a b:LA)(δ:T)(κ:Int->T):T:=br ((Iter (xaE a b a (↑a.length:Int)) 0).isSome) (br (((Iter (xaE a b a (↑a.length:Int)) 0).getD (false,0,())).fst) (κ (((Iter (xaE a b a (↑a.length:Int)) 0).getD (false,0,())).snd.fst)) (br (decide ((↑a.length:Int)<(↑b.length:Int))) (κ ((-1))) (κ (0)))) δ
def xjx(a b:LA):=xio a b none some
def xJt:EO:=xGb.f Tryz.func172 39 0 [] [(2,xj0.lp)] (lk1 xj0.ok) (u3 (uL 3) (uL 3) (sEq (xLR (173:FuncId) xMd))) (λ(a,b,_,_) _=>xio a b) (λ _ p=>AV.int .i64 p) 0
def xm6{T:Type}(a b:LA)(δ:T)(κ:Int->T):T:=br ((xjx a b).isSome) (κ ((xjx a b).getD 0)) δ
def xll(a b:LA):=xm6 a b none some
def xJu:EO:=xJt.f Tryz.func144 8 0 [] [] lk0 (u2 (uL 3) (uL 3)) (λ(a,b,_) _=>xm6 a b) (λ _ p=>AV.int .i64 p) 0
def xlp{T:Type}(a c b d:LA)(δ:T)(κ:Int->T):T:=br ((xll a b).isSome) (κ ((xll a b).getD 0)) δ
def xfx(c a d b:LA):=xlp c a d b none some
def xBK:EO:=xJu.f Tryz.func143 10 0 [] [] lk0 (u2 (xMs (u2 (uL 3) (uL 2))) (xMs (u2 (uL 3) (uL 2)))) (λ((c,a,_),(d,b,_),_) _=>xlp c a d b) (λ _ p=>AV.int .i64 p) 0
def xc3(a:Nat)(j:Int):=decide (0<=i64.wrap (j - 1))&&decide (i64.wrap (j - 1)<(↑a:Int))
def xbF(j:Int):Nat:=0+(i64.wrap (j - 1)).toNat
def xc4(a:Nat)(j:Int):=decide (0<=j)&&decide (j<(↑a:Int))
def xfj(j:Int)(a:LA):=decide (0+j.toNat<a.length)
def xfh(j:Int)(a:LA):=xfj j a&&((a.getD (0+j.toNat) .top).cells.length==2&&xLz [Sh.list 3,Sh.list 2] (a.getD (0+j.toNat) .top).cells 0)
def xaI(j:Int)(a:LA):=(a.getD (xbF j) .top).cells
def xff(j:Int)(a:LA):=decide (xbF j<a.length)&&((xaI j a).length==2&&xLz [Sh.list 3,Sh.list 2] (xaI j a) 0)
def xfg(j:Int)(a:LA):=xfx ((a.getD (0+j.toNat) .top).cells.getD 0 .top).toList ((a.getD (0+j.toNat) .top).cells.getD 1 .top).toList ((xaI j a).getD 0 .top).toList ((xaI j a).getD 1 .top).toList
def xfi(j:Int)(a:LA):=a.set (0+j.toNat) (AV.agg [AV.list 3 ((xaI j a).getD 0 .top).toList,AV.list 2 ((xaI j a).getD 1 .top).toList])
def xfz{T:Type}(d:Nat)(a b i j:Int)(c:LA)(δ:T)(κl:(Int×LA)->T)(κr:(LA)->T):T:=br (decide (j>a)) (br (xc4 d j) (br (xfh j c) (br (xc3 d j) (br (xff j c) (br ((xfg j c).isSome) (br (decide ((xfg j c).getD 0<0)) (br (xc3 d j) (br (xff j c) (br (xc4 d j) (br (xfh j c) (br (xc4 d j) (br (xfj j c) (br (xc3 d j) (br (decide (xbF j<(xfi j c).length)) (κl (i64.wrap (j - 1),(xfi j c).set (xbF j) (AV.agg [AV.list 3 ((c.getD (0+j.toNat) .top).cells.getD 0 .top).toList,AV.list 2 ((c.getD (0+j.toNat) .top).cells.getD 1 .top).toList]))) δ) δ) δ) δ) δ) δ) δ) δ) (κr (c))) δ) δ) δ) δ) δ) (κr (c))
def xbi(d:Nat)(a b i:Int):StT (Int×LA) (LA):=λ(j,c)=>xfz d a b i j c none inL inR
def xbE:=xBK.l 53 1 [148] [] Tryz.f188 1 lk0 [0,1,2,3,8,9] [0,1,2,3,8] [] (q6 (xMn 0 0 0) qI qI (xLR 143 xMd) qI qI) (q1 (qB 0 2 148 xMf)) (λ(c,a,b,_,i,j,_) (d,_)=>(xbi c a b i,(j,d),λ p=>(.leaf (.exit 2) [AV.osl 0 0 0 c,AV.int .i64 a,AV.int .i64 b,AV.func 143 [],AV.int .i64 i] [bF 0 2 148 p]))) [] λ(c,a,b,_,i,_,_) _ (j,d)=>(((c,a,b,(),i,j,()),(d,())),xfz c a b i j d none)
def xfy{T:Type}(d:Nat)(a b i:Int)(c:LA)(δ:T)(κl:(Int×LA)->T)(κr:(LA)->T):T:=br (decide (i<b)) (br ((Iter (xbi d a b i) (i,c)).isSome) (κl (i64.wrap (i+1),(Iter (xbi d a b i) (i,c)).getD [])) δ) (κr (c))
def xbh(d:Nat)(a b:Int):StT (Int×LA) (LA):=λ(i,c)=>xfy d a b i c none inL inR
def xfe:=xBK.l 53 1 [148] [(4,xbE.lp)] Tryz.f188 0 (lk1 xbE.ok) [0,1,2,3,8] [] [] (q5 (xMn 0 0 0) qI qI (xLR 143 xMd) qI) (q1 (qB 0 2 148 xMf)) (λ(d,a,b,_,i,_) (c,_)=>(xbh d a b,(i,c),λ p=>(.leaf (.exit 0) [] [bF 0 2 148 p]))) [] λ(d,a,b,_,_,_) _ (i,c)=>(((d,a,b,(),i,()),(c,())),xfy d a b i c none)
def xdP{T:Type}(n:Nat)(a b:Int)(c:LA)(δ:T)(κ:LA->T):T:=br ((Iter (xbh n a b) (i64.wrap (a+1),c)).isSome) (κ ((Iter (xbh n a b) (i64.wrap (a+1),c)).getD [])) δ
def xa1(n:Nat)(a b:Int)(c:LA):=xdP n a b c none some
def xyo:EO:=xBK.fM Tryz.func188 53 1 [148] [(4,xbE.lp),(1,xfe.lp)] (lks (lkC xfe.ok (lkC xbE.ok lkN))) (u4 (sEq (xMn 0 0 0)) uI uI (sEq (xLR (143:FuncId) xMd))) (q1 (qB 0 2 148 xMf)) (λ(n,a,b,_,_) (c,_) _=>xdP n a b c) (λ _ _ p=>(AV.tuple [],([bF 0 2 148 p]:List Box))) []
def xeR{T:Type}(d:Nat)(n e a b:Int)(c:LA)(δ:T)(κl:(Int×Int×LA)->T)(κr:(Int×LA)->T):T:=br (decide (b<=n)) (br ((xa1 d a b c).isSome) (κl (b,i64.wrap (b+e),(xa1 d a b c).getD [])) δ) (κr (a,c))
def xbw(e:Nat)(n c:Int):StT (Int×Int×LA) (Int×LA):=λ(a,b,d)=>xeR e n c a b d none inL inR
def xc5:=xyo.l 63 1 [148] [] Tryz.f171 0 lk0 [0,1,2,6,7,8] [0,1,2,6,7] [] (q6 (xMn 0 0 0) qI (xLR 143 xMd) qI qI qI) (q1 (qB 0 2 148 xMf)) (λ(d,n,_,c,a,b,_) (e,_)=>(xbw d n c,(a,b,e),λ p=>(.leaf (.exit 0) [AV.osl 0 0 0 d,AV.int .i64 n,AV.func 143 [],AV.int .i64 c,AV.int .i64 p.1] [bF 0 2 148 p.2]))) (0,[]) λ(d,n,_,c,_,_,_) _ (a,b,e)=>(((d,n,(),c,a,b,()),(e,())),xeR d n c a b e none)
def xic{T:Type}(d:Nat)(n e a b:Int)(c:LA)(δ:T)(κl:(Int×Int×LA)->T)(κr:(Int×LA)->T):T:=br (decide (b<=n)) (br (decide (0+d<=c.length)&&true) δ δ) (κr (a,c))
def xgZ(e:Nat)(n c:Int):StT (Int×Int×LA) (Int×LA):=λ(a,b,d)=>xic e n c a b d none inL inR
def xc6:=xyo.l 63 1 [148] [(2,xc5.lp)] Tryz.f171 2 lk0 [0,1,2,6,7,8] [0,1,2,6,7] [] (q6 (xMn 0 0 0) qI (xLR 143 xMd) qI qI qI) (q1 (qB 0 2 148 xMf)) (λ(d,n,_,c,a,b,_) (e,_)=>(xgZ d n c,(a,b,e),λ p=>(.leaf (.exit 4) [AV.osl 0 0 0 d,AV.int .i64 n,AV.func 143 [],AV.int .i64 c,AV.int .i64 p.1] [bF 0 2 148 p.2]))) (0,[]) λ(d,n,_,c,_,_,_) _ (a,b,e)=>(((d,n,(),c,a,b,()),(e,())),xic d n c a b e none)
def xhx(c:Nat)(n a:Int)(b:LA):=Iter (xgZ c n a) (0,i64.wrap (2*a),b)
def xeG(c:Nat)(n a:Int)(b:LA):=(xhx c n a b).getD (0,[])
def xeS{T:Type}(c:Nat)(n a:Int)(b:LA)(δ:T)(κl:(Int×LA)->T)(κr:(LA)->T):T:=br (decide (a<n)) (br ((xhx c n a b).isSome) (br (decide (i64.wrap ((xeG c n a b).fst+a)<n)) (br (decide (0+c<=((xeG c n a b).snd).length)&&true) δ δ) (κl (i64.wrap (a*2),((xeG c n a b).snd)))) δ) (κr (b))
def xcu(c:Nat)(n:Int):StT (Int×LA) (LA):=λ(a,b)=>xeS c n a b none inL inR
def xhZ:=xyo.l 63 1 [148] [(2,xc5.lp),(9,xc6.lp)] Tryz.f171 1 (lk1 xc6.ok) [0,1,2,6] [] [] (q4 (xMn 0 0 0) qI (xLR 143 xMd) qI) (q1 (qB 0 2 148 xMf)) (λ(c,n,_,a,_) (b,_)=>(xcu c n,(a,b),λ p=>(.leaf (.exit 2) [] [bF 0 2 148 p]))) [] λ(c,n,_,_,_) _ (a,b)=>(((c,n,(),a,()),(b,())),xeS c n a b none)
def xfO(n:Nat)(k:Int)(a:LA):=(Iter (xbw n k 20) (0,20,a)).getD (0,[])
def xfN(n:Nat)(k:Int)(a:LA):=xa1 n (xfO n k a).fst k (xfO n k a).snd
def xfM(n:Nat)(k:Int)(a:LA):=Iter (xcu n k) (20,(xfN n k a).getD [])
def xgf{T:Type}(n:Nat)(k:Int)(a:LA)(δ:T)(κ:LA->T):T:=br ((Iter (xbw n k 20) (0,20,a)).isSome) (br ((xfN n k a).isSome) (br ((xfM n k a).isSome) (κ ((xfM n k a).getD [])) δ) δ) δ
def xeN(n:Nat)(k:Int)(a:LA):=xgf n k a none some
def xJv:EO:=xyo.fM Tryz.func171 63 1 [148] [(2,xc5.lp),(9,xc6.lp),(7,xhZ.lp)] (lks (lkC xc5.ok (lkC xhZ.ok (lkC xc6.ok lkN)))) (u3 (sEq (xMn 0 0 0)) uI (sEq (xLR (143:FuncId) xMd))) (q1 (qB 0 2 148 xMf)) (λ(n,k,_,_) (a,_) _=>xgf n k a) (λ _ _ p=>(AV.tuple [],([bF 0 2 148 p]:List Box))) []
def xfL{T:Type}(n:Nat)(a:LA)(δ:T)(κ:LA->T):T:=br ((xeN n (↑n:Int) a).isSome) (κ ((xeN n (↑n:Int) a).getD [])) δ
def xgp(n:Nat)(a:LA):=xfL n a none some
def xGc:EO:=xJv.fM Tryz.func142 9 1 [148] [] lk0 (u2 (sEq (xMn 0 0 0)) (sEq (xLR (143:FuncId) xMd))) (q1 (qB 0 2 148 xMf)) (λ(n,_,_) (a,_) _=>xfL n a) (λ _ _ p=>(AV.tuple [],([bF 0 2 148 p]:List Box))) []
def xdT(b:LA)(c:Int)(a:LA):=a++[AV.agg [AV.list 3 (gC b c 0).toList,AV.list 2 []]]
def xbm(a:Nat):Nat:=0+(↑a:Int).toNat
def xb5(a:LA)(b:Int):=(xju (gC a b 0).toList).getD []
def xgh(d:LA)(f:Int)(b:Nat)(e:Int)(c a:LA):=decide (xbm b<(xdT d e a).length)
def xaQ(c:LA)(b:Nat)(d:Int)(a:LA):=((xdT c d a).getD (xbm b) .top).cells
def xfD(a:LA)(b:Int):=decide ((xb5 a b).length<=4611686018427387904)
def xdU(b:LA)(c:Int)(a:LA):=(xLM (AV.int .i64 0) a (xb5 b c)).toInt
def xgi(c:LA)(b:Nat)(d:Int)(a:LA):=decide (0<=xdU c d a)&&decide (xdU c d a<(↑b:Int))
def xaA(c:LA)(b:Nat)(d:Int)(a:LA):=((xaQ c b d a).getD 1 .top).toList.length
def xaq(b:LA)(c:Int)(a:LA):Nat:=0+(xdU b c a).toNat
def xfC(a:LA)(d:Nat)(b:Int)(c:LA):=((xaQ a d b c).getD 1 .top).toList++[AV.agg [AV.int .i64 (gC a b 1).toInt,AV.int .i64 (gC a b 2).toInt]]
def xel(c:LA)(b:Nat)(d:Int)(a:LA):=(xdT c d a).set (xbm b) (AV.agg (List.take 1 (xaQ c b d a)++[AV.int .i64 (↑(xaA c b d a):Int)]++List.drop 2 (xaQ c b d a)))
def xgj(c:LA)(d:Int)(a b:LA):=decide (xaq c d a<b.length)
def xaB(c:LA)(d:Int)(a b:LA):=((b.getD (xaq c d a) .top).cells.getD 1 .top).toList.length
def xfB(b:LA)(c:Int)(a d:LA):=((d.getD (xaq b c a) .top).cells.getD 1 .top).toList++[AV.agg [AV.int .i64 (gC b c 1).toInt,AV.int .i64 (gC b c 2).toInt]]
def xdf(c:LA)(a:Nat)(d:Int)(b:LA):=((xel c a d b).getD (xbm a) .top).cells
def xem(c:LA)(d:Int)(a b:LA):=b.set (xaq c d a) (AV.agg (List.take 1 (b.getD (xaq c d a) .top).cells++[AV.int .i64 (↑(xaB c d a b):Int)]++List.drop 2 (b.getD (xaq c d a) .top).cells))
def xdg(c:LA)(d:Int)(a b:LA):=((xem c d a b).getD (xaq c d a) .top).cells
def xdt{T:Type}(e:LA)(f:Int)(d:Nat)(c:Int)(b a:LA)(δ:T)(κl:(Nat×Int×LA×LA)->T)(κr:(Nat×LA)->T):T:=br (decide (c<f)) (br (ixI e c) (br (ixT e c 3 [Sh.list 3,Sh.int .i64,Sh.int .i64] 0) (br (!xf8 (gC e c 1).toInt (gC e c 2).toInt) (κl (d,i64.wrap (c+1),b,a)) (br ((xju (gC e c 0).toList).isSome) (br (xfD e c&&xLr (Sh.int .i64) (xLM (AV.int .i64 0) b (xb5 e c))) (br (!xLY b (xb5 e c)) (br (decide (b.length<4611686018427387904)&&xfD e c) (br (rmB d a 1 48) (br (decide ((↑d:Int)<(↑(d+1):Int))) (br (xgh e f d c b a&&(xL8 2 ((xaQ e d c a).getD 1 .top)&&(xaQ e d c a).length==2)) (br (xgh e f d c b a&&(xL8 2 ((xaQ e d c a).getD 1 .top)&&((xaQ e d c a).length==2&&(2*xaA e d c a==2*xaA e d c a&&(xaA e d c a==xaA e d c a&&(xaA e d c a==xaA e d c a&&(decide ((xaA e d c a+1)*16<=140737488355328)&&decide (xaA e d c a+1<=4611686018427387904)))))))) (br (decide ((↑d:Int)<(↑(d+1):Int))) (br (decide (xbm d<(xel e d c a).length)&&((xdf e d c a).length==2&&(xaA e d c a+1==(xfC e d c a).length&&xMv ((xdf e d c a).getD 1 .top) (xaA e d c a+1)))) (κl (d+1,i64.wrap (c+1),xLK b (xb5 e c) (AV.int .i64 (↑d:Int)),(xel e d c a).set (xbm d) (AV.agg (List.take 1 (xdf e d c a)++[AV.list 2 (xfC e d c a)]++List.drop 2 (xdf e d c a))))) δ) δ) δ) δ) δ) δ) δ) (br (xgi e d c b) (br (xgj e c b a&&(xL8 2 ((a.getD (xaq e c b) .top).cells.getD 1 .top)&&(a.getD (xaq e c b) .top).cells.length==2)) (br (xgj e c b a&&(xL8 2 ((a.getD (xaq e c b) .top).cells.getD 1 .top)&&((a.getD (xaq e c b) .top).cells.length==2&&(2*xaB e c b a==2*xaB e c b a&&(xaB e c b a==xaB e c b a&&(xaB e c b a==xaB e c b a&&(decide ((xaB e c b a+1)*16<=140737488355328)&&decide (xaB e c b a+1<=4611686018427387904)))))))) (br (xgi e d c b) (br (decide (xaq e c b<(xem e c b a).length)&&((xdg e c b a).length==2&&(xaB e c b a+1==(xfB e c b a).length&&xMv ((xdg e c b a).getD 1 .top) (xaB e c b a+1)))) (κl (d,i64.wrap (c+1),b,(xem e c b a).set (xaq e c b) (AV.agg (List.take 1 (xdg e c b a)++[AV.list 2 (xfB e c b a)]++List.drop 2 (xdg e c b a))))) δ) δ) δ) δ) δ)) δ) δ)) δ) δ) (κr (d,a))
def xbg(d:LA)(e:Int):StT (Nat×Int×LA×LA) (Nat×LA):=λ(c,f,a,b)=>xdt d e c f a b none inL inR
def xna:=xGc.l 60 0 [] [] Tryz.f126 0 lk0 [3,4,11,12,13] [4] [(4,2,223474614420)] (q5 (xMo 0 0 0 0) (xMn 1 0 0) (qL 3) qI qI) (q2 (qB 0 2 1208925819615333616451584 xMf) (qB 0 2 223474614420 xMf)) (λ(_,c,d,e,f,_) (a,b,_)=>(xbg d e,(c,f,a,b),λ p=>(.leaf (.exit 0) [AV.osl 0 0 0 p.1] [bF 0 2 223474614420 p.2]))) (0,[]) λ(_,_,d,e,_,_) _ (c,f,a,b)=>((((),c,d,e,f,()),(a,b,())),xdt d e c f a b none)
def xlq(l:LA):=Iter (xbg l (↑l.length:Int)) (0,0,[],[])
def xes(l:LA):=(xlq l).getD (0,[])
def xif(l:LA):=xgp ((xes l).fst) ((xes l).snd)
def xmk{T:Type}(l:LA)(δ:T)(κ:LA->T):T:=br ((xlq l).isSome) (br (xLZ 2 1 ((xes l).snd)) (br ((xif l).isSome) (br (decide (0+((xes l).fst)<=((xif l).getD []).length)&&true) (κ (List.take ((xes l).fst) (List.drop 0 ((xif l).getD [])))) δ) δ) δ) δ
def xd9(l:LA):=xmk l none some
def xGd:EO:=xGc.f Tryz.func126 60 0 [] [(4,xna.lp)] (lk1 xna.ok) (u1 (uL 3)) (λ(l,_) _=>xmk l) (λ _ p=>AV.list 2 p) []
end Go.Sim.M
end
