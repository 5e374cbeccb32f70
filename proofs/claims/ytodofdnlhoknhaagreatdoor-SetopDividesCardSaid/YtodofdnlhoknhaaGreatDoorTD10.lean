/- Part 10 of the proof of the law. -/
import Derived.Test.YtodofdnlhoknhaaGreatDoorTD9
import Derived.WalkKit
import Derived.BigCall
import Derived.Lib.Strings
import Derived.Lib.Slices
import Derived.Lib.Walk
import Derived.Lib.Builder
import Derived.Lib.UnsafeStr
import Derived.Laws.Externs
import Derived.Laws.IdiomCopy
import Derived.Laws.BitsLemmas
import Derived.RegionTactic
set_option linter.defProp false
set_option linter.unusedVariables false
set_option linter.unusedSimpArgs false
set_option linter.unnecessarySimpa false
noncomputable section
namespace Go.Proofs
open Go.RowKit Go.Lib
def Tryz.lies_builder(n:Nat)(hn:1<=n):liesAt Tryz.prog Tryz.prog.depth 111 n 0 111 1:=by(have hc:Tryz.prog.cellsOf 111=2:=by kernel_rfl);have hd:Tryz.prog.depth=(2*(Tryz.prog.types.size+Made.depth)+1)+1:=rfl;generalize Tryz.prog=P at *;rw[hd];simp only[liesAt,Bool.or_eq_true];left;rw[hd];simp[rowAt,hc,hn,sameLayout]
set_option maxHeartbeats 2000000 in
set_option maxRecDepth 100000 in
def Tryz.copyCheck_used(b:Nat)(w:World)(h0:w.cell? ⟨b,0,none⟩=some (.pointer (some ⟨b,0,none⟩))):Calls Tryz.prog 130 #[.pointer (some ⟨b,0,none⟩)] w λ e w'=>e=.returned (.tuple #[])/\w'=w:=by(have hsz:(Tryz.prog.info? 111).map (·.size)=some 2:=by kernel_rfl);(obtain⟨j,hj,_⟩:=Option.map_eq_some_iff.1 hsz;have tp:Tryz.prog.underlying 108=some (.pointer 111):=by kernel_rfl);go_enter Tryz.func130,Tryz.ntmps130;go_wp2;rw[Lib.run_neq_ptr_same w _ tp hj];go_wp2;go_end0;exact⟨rfl,rfl⟩
set_option maxHeartbeats 2000000 in
set_option maxRecDepth 100000 in
def Tryz.copyCheck_fresh(b n:Nat)(hn:1<=n)(w:World)(h0:w.cell? ⟨b,0,none⟩=some (.pointer none))(J:w.shape? b=some (111,n*2))(Q:w.frozen? ⟨b,0,none⟩=false):Calls Tryz.prog 130 #[.pointer (some ⟨b,0,none⟩)] w λ e w'=>e=.returned (.tuple #[])/\w'=w.setCell ⟨b,0,none⟩ (.pointer (some ⟨b,0,none⟩)):=by
 have hsz:(Tryz.prog.info? 111).map (·.size)=some 2:=by kernel_rfl
 obtain⟨j,hj,O⟩:=Option.map_eq_some_iff.1 hsz;have hc:Tryz.prog.cellsOf 111=2:=by kernel_rfl
 have tp:Tryz.prog.underlying 108=some (.pointer 111):=by kernel_rfl
 have tu:Tryz.prog.underlying 171=some .unsafePointer:=by kernel_rfl
 have q:liesAt Tryz.prog Tryz.prog.depth 111 (n*2 / Tryz.prog.cellsOf 111) 0 111 1:=by rw[hc,Nat.mul_div_cancel _ (by decide)];exact Tryz.lies_builder n hn
 have c1:=Lib.run_to_unsafe w ⟨b,0,none⟩ tp tu hj (by rw[O];decide) J (show 0<n*2 by omega);have c2:=Lib.run_from_unsafe w ⟨b,0,none⟩ tu tp hj J q;clear q;go_enter Tryz.func130,Tryz.ntmps130;go_wp2;rw[run_callFunc_extern Tryz.func148 (by kernel_rfl) (by kernel_rfl) (by kernel_rfl) (e:=Extern.AbiNoEscape.same) (by kernel_rfl)];rw[Lib.run_noEscape];simp only[Result.andThen];rw[Oper.upon_value];go_wp2;go_end0;exact⟨rfl,rfl⟩
set_option maxHeartbeats 2000000 in
set_option maxRecDepth 100000 in
def Tryz.builder_string(b g cap:Nat)(l:List UInt8)(cur:Array Value)(w:World)(hb:w.cell? ⟨b,1,none⟩=some (.slice (some ⟨g,0,none⟩) l.length cap))(hg:w.heap[g]?=some (.cells cur 5 (0,0)))(q:∀j x,l[j]?=some x->w.cell? ((⟨g,0,none⟩:Addr).add j)=some (.int .u8 x.toNat))(V:l.length<=cur.size)(hcap:cap≠0)(h0:l≠[])(J:l.length<=9223372036854775807):Calls Tryz.prog 97 #[.pointer (some ⟨b,0,none⟩)] w λ e w'=>e=.returned (.string ⟨l.toArray⟩)/\w'=w.drew.freeze ⟨g,0,none⟩ l.length:=by(have c1:w.drew.cell? ⟨b,1,none⟩=some (.slice (some ⟨g,0,none⟩) l.length cap):=hb;have Q:Tryz.prog.underlying 155=some (.pointer 5):=by kernel_rfl);(have O:Tryz.prog.cellsOf 5=1:=by kernel_rfl);have Y:(Builtin.unsafeSliceData_ #[109] 155 #[.slice (some ⟨g,0,none⟩) l.length cap]).run Tryz.prog w.drew=.ok (.pointer (some ⟨g,0,none⟩)) w.drew:=Lib.run_unsafeSliceData_row _ _ _ _ _ _ hcap;have W:(Builtin.unsafeString_ #[155,3] 9 #[.pointer (some ⟨g,0,none⟩),.int .i64 l.length]).run Tryz.prog w.drew=.ok (.string ⟨l.toArray⟩) (w.drew.freeze ⟨g,0,none⟩ l.length):=Lib.run_unsafeString_row w.drew 155 3 9 5 Q O g cur.size (by have hg':w.drew.heap[g]?=some (.cells cur 5 (0,0)):=hg;simp[World.shape?,hg']) l h0 V J q;clear q;go_enter Tryz.func97,Tryz.ntmps97;go_wp2;go_region;all_goals (go_wp2;go_ret;exact⟨rfl,rfl⟩)
set_option maxHeartbeats 2000000 in
set_option maxRecDepth 100000 in
def Tryz.builder_string_nil(b:Nat)(w:World)(hb:w.cell? ⟨b,1,none⟩=some (.slice none 0 0)):Calls Tryz.prog 97 #[.pointer (some ⟨b,0,none⟩)] w λ e w'=>e=.returned (.string ⟨#[]⟩)/\w'=w.drew:=by have c1:w.drew.cell? ⟨b,1,none⟩=some (.slice none 0 0):=hb;have J:(Builtin.unsafeSliceData_ #[109] 155 #[.slice none 0 0]).run Tryz.prog w.drew=.ok (.pointer none) w.drew:=rfl;have q:=Lib.run_unsafeString_none (P:=Tryz.prog) w.drew 155 3 9 none;go_enter Tryz.func97,Tryz.ntmps97;go_wp2;go_region;all_goals (go_wp2;go_ret;exact⟨rfl,rfl⟩)
end Go.Proofs
end
noncomputable section
namespace Go.Sim
open Go.RowKit Go.Proofs
def M.isByte:AV->Bool|.int .u8 n=>decide (0<=n)&&decide (n<256)|_=>false
def M.isBytes(xs:List AV):Bool:=xs.all M.isByte
def M.strOf(xs:List AV):List UInt8:=xs.map λ x=>UInt8.ofNat x.toInt.toNat
def xss(s:List UInt8):M.strOf (M.byteAVs s)=s:=by unfold M.strOf M.byteAVs;rw[List.map_map];(conv=>rhs;rw[<-List.map_id s]);exact List.map_congr_left λ u _=>by simp[AV.toInt]
def xqu(s:List UInt8):M.isBytes (M.byteAVs s):=by unfold M.isBytes M.byteAVs;rw[zI];intro x hx;obtain⟨u,_,rfl⟩:=zK.1 hx;have:=u.toNat_lt;simp only[M.isByte,zf,zl];omega
def xra(s t:List UInt8):M.byteAVs (s++t)=M.byteAVs s++M.byteAVs t:=by simp[M.byteAVs]
def xf4(s:List UInt8):(M.byteAVs s).length=s.length:=by simp[M.byteAVs]
def xCN{x:AV}(h:M.isByte x):∃u:UInt8,x=.int .u8 u.toNat:=by unfold M.isByte at h;split at h;(rename_i n;simp only[zf,zl]at h;refine⟨UInt8.ofNat n.toNat,?_⟩;have:(UInt8.ofNat n.toNat).toNat=n.toNat:=by rw[UInt8.toNat_ofNat',Nat.mod_eq_of_lt (by omega)]);rw[this];congr 1;omega;simp at h
def xzy(w:World)(g n k:Nat)(h:k≠g):(w.freeze ⟨g,0,none⟩ n).heap[k]?=w.heap[k]?:=by unfold World.freeze;split;rfl;simp[Array.getElem?_modify,Ne.symm h]
def xAP(w:World)(g n:Nat):(w.freeze ⟨g,0,none⟩ n).heap.size=w.heap.size:=by unfold World.freeze;split;rfl;simp
variable {H:List Box}
def xEq{w w':World}{A:Nat->Prop}{M:Id->Option MB}{B:Nat}(hR:HR w A M B H){id:Nat}{m:MB}{bx:Box}(J:0<m.cap)(hm:M (.b id)=some m)(hb:H[id]?=some bx)(Z:isC bx.ty=false)(ab:bx.frz=false)(Q:BoxAt w A M B (.b id) m bx)(v:Nat)(hv:m.ver<v)(sz:Nat)(ty:TypeId)(W:isC ty=false)(hs:w'.heap.size=w.heap.size)(hw:∀b,b≠m.b->w'.heap[b]?=w.heap[b]?):HR w' A (MSet M (.b id) ⟨m.b,v,sz,0,ty⟩) B (H.set id ⟨v,sz,ty,[],false,true⟩)/\Mv w A M w' A (MSet M (.b id) ⟨m.b,v,sz,0,ty⟩):=by
 have aa:A m.b:=(Q.guard J).1 ab;have O:MExt M (MSet M (.b id) ⟨m.b,v,sz,0,ty⟩):=xnA hm (.inr hv);have hw':∀b,b<w.heap.size->¬ A b->w'.heap[b]?=w.heap[b]?:=λ b _ hA=>hw b λ e=>hA (e▸aa);have hc:∀{p:Prop},0<(0:Nat)->p:=λ h=>absurd h (by omega);have q:∀i m1,MSet M (.b id) ⟨m.b,v,sz,0,ty⟩ i=some m1->0<m1.cap->i≠.b id/\M i=some m1:=λ i m1 h1 h0=>by by_cases hi:i=.b id;subst hi;simp[MSet]at h1;subst h1;exact absurd h0 (by simp);exact⟨hi,by simpa[MSet,hi]using h1⟩
 refine⟨⟨λ i m1 h1=>?_,λ i i' m1 m2 h1 h2 c1 c2 he=>hR.inj i i' m1 m2 (q i m1 h1 c1).2 (q i' m2 h2 c2).2 c1 c2 he,λ b hb=>by rw[hs];exact hR.lt b hb⟩,⟨by omega,hw',λ _ _ h=>h,λ _ _ h _=>h,O,⟨λ b _ hb=>hw b λ e=>hb (.b id) m hm J e.symm,λ i m1 h1 h0=>.inl ⟨i,m1,(q i m1 h1 h0).2,h0,rfl⟩⟩⟩⟩;by_cases hi:i=.b id;subst hi;have:m1=⟨m.b,v,sz,0,ty⟩:=by simp[MSet]at h1;exact h1.symm
 subst this;exact⟨⟨v,sz,ty,[],false,true⟩,by rw[xbb,zL (xct hb)],rfl,rfl,xbu W,zQ _,zQ _,λ x hx=>by simp at hx,hc,hc,hc,hc⟩;have V:M i=some m1:=by simpa[MSet,hi]using h1
 obtain⟨Y,g1,g2⟩:=hR.box i m1 V;exact⟨Y,by rw[xce hb Z W hi];exact g1,g2.mono (λ h0=>hw _ λ e=>hi (hR.inj i (.b id) m1 m V hm h0 J e)) hw' (by omega) (λ _ _ h=>h) g2.guard O⟩
def xnx{w:World}{A:Nat->Prop}{M:Id->Option MB}{B:Nat}(hR:HR w A M B H){v:Value}{a x:AV}{ty:TypeId}{frz pm:Bool}(J:isC ty=false)(hv:Rel w A M v (.own (.b 0) 0 0 0))(hb:H[0]?=some ⟨0,2,ty,[.agg [a,x]],frz,pm⟩):∃m c,M (.b 0)=some m/\BoxAt w A M B (.b 0) m ⟨0,2,ty,[.agg [a,x]],frz,pm⟩/\1<=m.cap/\v=.pointer (some ⟨m.b,0,none⟩)/\w.heap[m.b]?=some (.cells c ty (0,0))/\c.size=m.cap*2/\m.sz=2/\Rel w A (MP M pm) (c.getD 0 undef) a/\Rel w A (MP M pm) (c.getD 1 undef) x/\w.cell? ⟨m.b,0,none⟩=some (c.getD 0 undef)/\w.cell? ⟨m.b,1,none⟩=some (c.getD 1 undef):=by
 obtain⟨m,hm,q,hp⟩:=xmH hR hv (xmA hb J);have hcap:1<=m.cap:=q.fits;have hsz:m.sz=2:=q.sz.symm;obtain⟨c,h1,h2,h3⟩:=q.plainCells J (by omega);rw[hsz]at h2;have r0:=h3 0 0 (by simp) (by omega);have r1:=h3 0 1 (by simp) (by omega);have h1:w.heap[m.b]?=some (.cells c ty (0,0)):=h1;have e0:w.cell? ⟨m.b,0,none⟩=some (c.getD 0 undef):=by(have:0<c.size:=by omega);simp[World.cell?,h1,this]
 have e1:w.cell? ⟨m.b,1,none⟩=some (c.getD 1 undef):=by(have:1<c.size:=by omega);simp[World.cell?,h1,this]
 refine⟨m,c,hm,q,hcap,by simpa using hp,h1,h2,hsz,by simpa[AV.cells]using r0,by simpa[AV.cells]using r1,e0,e1⟩
def xqL:List AV->List Box->Option (Bool×AV×List Box)|[.own (.b 0) 0 0 0],⟨0,2,ty,[.agg [.nilptr,x]],false,pm⟩::r=>(match Nat.beq ty 111 with|true=>some (true,.tuple [],⟨0,2,ty,[.agg [.own (.b 0) 0 0 0,x]],false,false⟩::r)|false=>none)|[.own (.b 0) 0 0 0],⟨0,2,ty,[.agg [.own (.b 0) 0 0 0,x]],false,pm⟩::r=>(match Nat.beq ty 111 with|true=>some (true,.tuple [],⟨0,2,ty,[.agg [.own (.b 0) 0 0 0,x]],false,pm⟩::r)|false=>none)|_,_=>none
def xAK:OmOk Tryz.prog xMZ 130 xqL:=λ xs H r H' h=>by
 unfold xqL at h;split at h;rename_i ty x pm rest;split at h;case h_2=>simp at h
 rename_i J;have J:=zg J;subst J;simp only[z6,zb,true_and]at h;obtain⟨rfl,rfl⟩:=h;refine⟨xdy Tryz.func130 rfl (by kernel_rfl),λ w0 w A M vs hI hB hR O=>?_⟩;obtain⟨v,rfl,hv⟩:=rc1 O;obtain⟨m,c,hm,q,hcap,rfl,hh,Q,hsz,r0,r1,e0,e1⟩:=xnx hR (by rfl) hv rfl;have hn:c.getD 0 undef=.pointer none:=by revert r0;generalize c.getD 0 undef=z;intro r0;cases r0;rfl
 rw[hn]at e0;refine(Tryz.copyCheck_fresh m.b m.cap hcap w e0 (by simp[World.shape?,hh,Q]) (Lib.frozen_of_heap hh 0)).mono ?_;rintro e w' ⟨rfl,rfl⟩;rw[setCell_eq_setRow w m.b 0 c _ _ _ hh];have aa:x.one:=by have:=q.ok (.agg [.nilptr,x]) (by simp);simp only[AV.okElem,AV.cells,List.all_cons,zf]at this;exact this.2.2.1
 have W:(0:Nat)=m.ver:=q.ver;obtain⟨g1,g2,g3,g4,gt,g5⟩:=xpu (m':=m) (bx':=⟨0,2,111,[.agg [.own (.b 0) 0 0 0,x]],false,false⟩) hR (by omega) hm rfl q rfl rfl rfl (c':=c.setIfInBounds 0 (.pointer (some ⟨m.b,0,none⟩))) rfl rfl rfl rfl (.inl rfl)
  W (by rw [hsz]) (by have:=q.ty;rw [xbu rfl] at this;exact this) rfl hcap (fun y hy=>by
   simp only [zv] at hy;subst hy;rw [hsz];simp [AV.okElem,AV.cells,aa,show (AV.own (.b 0) 0 0 0).one=true from rfl]) (by rw [hsz];simpa using Q) (fun i j hi hj=>by
   have ab:i=0:=by simpa using hi
   subst ab;rw[hsz]at hj|-;have Z:0<c.size:=by omega
   have ac:1<c.size:=by omega
   match j,hj with
   | 0,_=>
    have:(c.setIfInBounds 0 (.pointer (some ⟨m.b,0,none⟩))).getD (0*2+0) undef=.pointer (some ⟨m.b,0,none⟩):=by simp[Z]
    rw[this];exact .own _ (.b 0) 0 0 0 m hm (by omega) rfl (λ _=>by rw[xld (q.nomap rfl)];simp)
   | 1,_=>
    have:(c.setIfInBounds 0 (.pointer (some ⟨m.b,0,none⟩))).getD (0*2+1) undef=c.getD 1 undef:=by simp[Array.getElem?_setIfInBounds]
    rw [this];exact r1.unmp)
 exact⟨_,A,_,rfl,hB.trans g4,λ _ _=>Iff.rfl,Ev.refl.step ⟨by simp[World.setRow],g3,λ _ _ h=>h,λ _ _ h _=>h,g2,gt⟩,by simpa using g1,.tuple #[] [] rfl (by simp)⟩;rename_i ty x pm rest;split at h;case h_2=>simp at h
 rename_i J;have J:=zg J;subst J;simp only[z6,zb,true_and]at h;obtain⟨rfl,rfl⟩:=h;refine⟨xdy Tryz.func130 rfl (by kernel_rfl),λ w0 w A M vs hI hB hR O=>?_⟩;obtain⟨v,rfl,hv⟩:=rc1 O;obtain⟨m,c,hm,q,hcap,rfl,hh,Q,hsz,r0,r1,e0,e1⟩:=xnx hR (by rfl) hv rfl;obtain⟨m',V,Y,hp⟩:=xmH hR r0.unmp (xmA (n:=0) (bx:=⟨0,2,111,[.agg [.own (.b 0) 0 0 0,x]],false,pm⟩) rfl rfl);rw[hm]at V;obtain rfl:=(z6 _ _).mp V;rw[hp]at e0;refine(Tryz.copyCheck_used m.b w (by simpa using e0)).mono ?_;rintro e w' ⟨rfl,rfl⟩;exact⟨_,A,M,rfl,hB,λ _ _=>Iff.rfl,Ev.refl,hR,.tuple #[] [] rfl (by simp)⟩;simp at h
def xlA:List AV->List Box->Option (Bool×AV×List Box)|[.own (.b 0) 0 0 0],[⟨0,2,ty,[.agg [a,.osl (.b 1) u 0 n]],false,pm⟩,⟨u',1,ty',bs,false,pm'⟩]=>(match Nat.beq ty 111&&(Nat.beq ty' 5&&Nat.beq u u')with|true=>some ((decide (n=bs.length)&&M.isBytes bs)&&decide (bs.length≠0),.str (M.strOf bs),[⟨0,2,ty,[.agg [a,.osl (.b 1) u 0 n]],false,pm⟩,⟨u+1,1,ty',[],false,true⟩])|false=>none)|[.own (.b 0) 0 0 0],⟨0,2,ty,[.agg [a,.nils]],false,pm⟩::r=>(match Nat.beq ty 111 with|true=>some (true,.str [],⟨0,2,ty,[.agg [a,.nils]],false,pm⟩::r)|false=>none)|_,_=>none
def xuj:OmOk Tryz.prog xMZ 97 xlA:=λ xs H r H' h=>by
 unfold xlA at h;split at h;rename_i ty a u n pm u' am bs ag;split at h;case h_2=>simp at h
 rename_i O;simp only[zf]at O;obtain⟨h1,h2,h3⟩:=O;have h1:=zg h1;have h2:=zg h2;have h3:=zg h3;subst h1 h2 h3;simp only[z6,zb,zf,zl]at h;obtain⟨⟨⟨rfl,af⟩,hne⟩,rfl,rfl⟩:=h;refine⟨xdy Tryz.func97 rfl (by kernel_rfl),λ w0 w A MM vs hI hB hR W=>?_⟩;obtain⟨v,rfl,hv⟩:=rc1 W;obtain⟨m,c,hm,ab,hcap,rfl,hh,ah,hsz,r0,r1,e0,e1⟩:=xnx hR (by rfl) hv rfl;obtain⟨m1,a1,ai,q,aj,ae,ac⟩:=xjx hR r1.unmp (xmA (n:=1) (bx:=⟨u,1,5,bs,false,ag⟩) rfl rfl);have J:0<m1.cap:=by have:=q.fits;simp only at this;omega
 have ha:=ac J;subst ha;obtain⟨c1,k1,k2,k3⟩:=q.plainCells rfl J;have Q:m1.sz=1:=q.sz.symm;have ak:5=m1.ty:=by have:=q.ty;rw[xbu rfl]at this;exact this
 rw[ae]at e1;simp only[Nat.zero_mul,Nat.sub_zero]at e1;have hl:(M.strOf bs).length=bs.length:=by simp[M.strOf]
 have V:∀j,j<bs.length->∃uu:UInt8,bs.getD j .top=.int .u8 uu.toNat/\(M.strOf bs)[j]?=some uu/\w.cell? ⟨m1.b,j,none⟩=some (.int .u8 uu.toNat):=λ j hj=>by have ad:bs.getD j .top∈bs:=xaO hj;obtain⟨uu,hu⟩:=xCN (zI.1 af _ ad);refine⟨uu,hu,?_,?_⟩;have:bs[j]?=some (bs.getD j .top):=xrd hj;simp only[M.strOf,List.getElem?_map,this,hu,Option.map_some,AV.toInt,zN,UInt8.ofNat_toNat];have hr:=k3 j 0 hj (by omega);(rw[Q,hu]at hr;simp only[Nat.mul_one,Nat.add_zero,AV.cells,List.getD_cons_zero]at hr;have:=hr.int_inv;have aa:j<c1.size:=by have:=q.fits;simp only at this;rw[k2,Q];omega);(simp only[World.cell?,k1];have e2:c1.getD j undef=c1[j]:=by simp[aa]);rw[e2]at this;simp[aa,this]
 refine (Tryz.builder_string m.b m1.b m1.cap (M.strOf bs) c1 w (by rw [hl];exact e1) k1 (fun j x hx=>by
  have hj:j<bs.length:=by
   rcases zJ j bs.length with h'|h'
   . exact h'
   . rw[zz (by omega)]at hx;simp at hx
  obtain⟨uu,g1,g2,g3⟩:=V j hj;rw[g2]at hx;obtain rfl:=(z6 _ _).mp hx;by_cases Z:j=0
  . subst Z;simpa[Addr.add]using g3
  . simpa [Addr.add,Z] using g3) (by rw [hl,k2,Q];have:=q.fits;simp only at this;omega) (by omega) (fun e=>hne (by rw [<-hl,e];rfl)) (by rw [hl];have h1:=q.fits;have h2:=q.capm;simp only at h1;unfold maxLen at h2;omega)).mono ?_
 rintro e w' ⟨rfl,rfl⟩;rw[hl];have Y:=q.low J;obtain⟨g1,g2⟩:=xEq hR J ai rfl rfl rfl q (u+1) (by have:=q.ver;simp only at this;omega) 1 5 rfl (w':=w.drew.freeze ⟨m1.b,0,none⟩ bs.length) (by rw[xAP];rfl) (λ b hb=>by rw[xzy _ _ _ _ hb];rfl);exact⟨_,A,_,rfl,Lib.below_freeze (hB.drew) (p:=⟨m1.b,0,none⟩) Y _,λ _ _=>Iff.rfl,Ev.refl.step g2,by simpa using g1,.str _⟩;rename_i ty a pm rest al;split at h;case h_2=>simp at h
 rename_i O;have O:=zg O;subst O;simp only[z6,zb,true_and]at h;obtain⟨rfl,rfl⟩:=h;refine⟨xdy Tryz.func97 rfl (by kernel_rfl),λ w0 w A MM vs hI hB hR W=>?_⟩;obtain⟨v,rfl,hv⟩:=rc1 W;obtain⟨m,c,hm,ab,hcap,rfl,hh,ah,hsz,r0,r1,e0,e1⟩:=xnx hR (by rfl) hv rfl;have hn:c.getD 1 undef=.slice none 0 0:=by revert r1;generalize c.getD 1 undef=z;intro r1;cases r1;rfl
 rw[hn]at e1;refine(Tryz.builder_string_nil m.b w e1).mono ?_;rintro e w' ⟨rfl,rfl⟩;exact⟨_,A,MM,rfl,hB.drew,λ _ _=>Iff.rfl,Ev.refl.step ⟨zd _,λ _ _ _=>rfl,λ _ _ h=>h,λ _ _ h _=>h,MExt.refl MM,⟨λ _ _ _=>rfl,λ i m1 h1 h0=>.inl ⟨i,m1,h1,h0,rfl⟩⟩⟩,hR.drew,.str _⟩;simp at h
end Go.Sim
end
noncomputable section
namespace Go.Sim
open Go.RowKit
variable{α β γ:Type}
structure Pat (α β:Type) where
 enc:β->α
 dec:α->Option β
 ok:∀a b,dec a=some b->a=enc b
def xM3:Pat α α:=⟨λ b=>b,some,λ a b h=>by simpa using h⟩
def pInt (k:IntKind):Pat AV Int:=⟨.int k,fun v=>match v with
 |.int k' n=>match decide (k'=k)with
  |true=>some n
  |false=>none
 |_=>none,λ v n h=>by
 split at h
 . split at h
   . rename_i hk;simp only[z6]at h;rw[of_decide_eq_true hk,h]
   . simp at h
 . simp at h⟩
def pStr:Pat AV (List UInt8):=⟨.str,fun v=>match v with
 |.str s=>some s
 |_=>none,λ v n h=>by
 split at h
 . simp only[z6]at h;rw[h]
 . simp at h⟩
def pBool:Pat AV Bool:=⟨.bool,fun v=>match v with
 |.bool s=>some s
 |_=>none,λ v n h=>by
 split at h
 . simp only[z6]at h;rw[h]
 . simp at h⟩
def xNh (sz:Nat) (q:Pat (List AV) β):Pat AV β:=⟨fun b=>.list sz (q.enc b),fun v=>match v with
 |.list z xs=>match Nat.beq z sz with
  |true=>q.dec xs
  |false=>none
 |_=>none,λ v n h=>by
 split at h
 . split at h
   . rename_i hz;rw[zg hz,q.ok _ _ h]
   . simp at h
 . simp at h⟩
def xNb (id ver off:Nat):Pat AV Nat:=⟨.osl id ver off,fun v=>match v with
 |.osl (.b i) e o n=>match Nat.beq i id&&(Nat.beq e ver&&Nat.beq o off)with
  |true=>some n
  |false=>none
 |_=>none,λ v n h=>by
 split at h
 . split at h
   . rename_i hz;simp only[zf]at hz;simp only[z6]at h;rw[zg hz.1,zg hz.2.1,zg hz.2.2,h]
   . simp at h
 . simp at h⟩
def pOslV (id off:Nat):Pat AV (Nat×Nat):=⟨fun p=>.osl id p.1 off p.2,fun v=>match v with
 |.osl (.b i) e o n=>match Nat.beq i id&&Nat.beq o off with
  |true=>some (e,n)
  |false=>none
 |_=>none,λ v n h=>by
 split at h
 . split at h
   . rename_i hz;simp only[zf]at hz;simp only[z6]at h;rw[zg hz.1,zg hz.2,<-h]
   . simp at h
 . simp at h⟩
def pOwnV (id j:Nat):Pat AV (Nat×Nat):=⟨fun p=>.own id p.1 p.2 j,fun v=>match v with
 |.own (.b a) b c d=>match Nat.beq a id&&Nat.beq d j with
  |true=>some (b,c)
  |false=>none
 |_=>none,λ v n h=>by
 split at h
 . split at h
   . rename_i hz;simp only[zf]at hz;simp only[z6]at h;rw[zg hz.1,zg hz.2,<-h]
   . simp at h
 . simp at h⟩
def xNc (id ver i j:Nat):Pat AV Unit:=⟨fun _=>.own id ver i j,fun v=>match v with
 |.own (.b a) b c d=>match Nat.beq a id&&(Nat.beq b ver&&(Nat.beq c i&&Nat.beq d j))with
  |true=>some ()
  |false=>none
 |_=>none,λ v n h=>by
 split at h
 . split at h
   . rename_i hz;simp only[zf]at hz;rw[zg hz.1,zg hz.2.1,zg hz.2.2.1,zg hz.2.2.2]
   . simp at h
 . simp at h⟩
def pEptr (sz i j:Nat) (q:Pat (List AV) β):Pat AV β:=⟨fun b=>.eptr sz (q.enc b) i j,fun v=>match v with
 |.eptr a xs c d=>match Nat.beq a sz&&(Nat.beq c i&&Nat.beq d j)with
  |true=>q.dec xs
  |false=>none
 |_=>none,λ v n h=>by
 split at h
 . split at h
   . rename_i hz;simp only[zf]at hz;rw[zg hz.1,zg hz.2.1,zg hz.2.2,q.ok _ _ h]
   . simp at h
 . simp at h⟩
def xNd (q:Pat (List AV) β):Pat AV β:=⟨fun b=>.agg (q.enc b),fun v=>match v with
 |.agg cs=>q.dec cs
 |_=>none,λ v n h=>by
 split at h
 . rw[q.ok _ _ h]
 . simp at h⟩
def xMF (f:Nat) (q:Pat (List AV) β):Pat AV β:=⟨fun b=>.func f (q.enc b),fun v=>match v with
 |.func g cs=>match Nat.beq g f with
  |true=>q.dec cs
  |false=>none
 |_=>none,λ v n h=>by
 split at h
 . split at h
   . rename_i hz;rw[zg hz,q.ok _ _ h]
   . simp at h
 . simp at h⟩
def pNils:Pat AV Unit:=⟨fun _=>.nils,fun v=>match v with
 |.nils=>some ()
 |_=>none,λ v n h=>by
 split at h
 . rfl
 . simp at h⟩
def pNilptr:Pat AV Unit:=⟨fun _=>.nilptr,fun v=>match v with
 |.nilptr=>some ()
 |_=>none,λ v n h=>by
 split at h
 . rfl
 . simp at h⟩
def xM1:Pat (List α) Unit:=⟨fun _=>[],fun v=>match v with
 |[]=>some ()
 |_=>none,λ v n h=>by
 split at h
 . rfl
 . simp at h⟩
def xMx (p:Pat α β) (q:Pat (List α) γ):Pat (List α) (β×γ):=⟨fun b=>p.enc b.1::q.enc b.2,fun v=>match v with
 |x::t=>match p.dec x with
  |some b=>match q.dec t with
   |some c=>some (b,c)
   |none=>none
  |none=>none
 |_=>none,λ v n h=>by
 split at h
 . split at h
   . rename_i hp;split at h
     . rename_i hq;cases h;rw[p.ok _ _ hp,q.ok _ _ hq]
     . simp at h
   . simp at h
 . simp at h⟩
def xNe (ver sz ty:Nat) (frz pm:Bool) (q:Pat (List AV) β):Pat Box β:=⟨fun b=>⟨ver,sz,ty,q.enc b,frz,pm⟩,fun v=>match v with
 |⟨a,b,c,xs,f,p⟩=>match Nat.beq a ver&&(Nat.beq b sz&&(Nat.beq c ty&&((f==frz)&&(p==pm))))with
  |true=>q.dec xs
  |false=>none,λ v n h=>by
 obtain⟨a,b,c,xs,f,p⟩:=v;dsimp only at h;split at h
 . rename_i hz;simp only[zf,beq_iff_eq]at hz;rw[zg hz.1,zg hz.2.1,zg hz.2.2.1,hz.2.2.2.1,hz.2.2.2.2,q.ok _ _ h]
 . simp at h⟩
def pBoxV (sz ty:Nat) (frz pm:Bool) (q:Pat (List AV) β):Pat Box (Nat×β):=⟨fun b=>⟨b.1,sz,ty,q.enc b.2,frz,pm⟩,fun v=>match v with
 |⟨a,b,c,xs,f,p⟩=>match Nat.beq b sz&&(Nat.beq c ty&&((f==frz)&&(p==pm)))with
  |true=>match q.dec xs with
   |some y=>some (a,y)
   |none=>none
  |false=>none,λ v n h=>by
 obtain⟨a,b,c,xs,f,p⟩:=v;dsimp only at h;split at h
 . rename_i hz;simp only[zf,beq_iff_eq]at hz;split at h
   . rename_i y hy;simp only[z6]at h;rw[zg hz.1,zg hz.2.1,hz.2.2.1,hz.2.2.2,<-h,q.ok _ _ hy]
   . simp at h
 . simp at h⟩
def Sub(a b:AV):Prop:=∀(w:World)(A:Nat->Prop)(M:Id->Option MB)(v:Value),Rel w A M v a->Rel w A M v b
def SubL(aS bs:List AV):Prop:=aS.length=bs.length/\∀i,i<aS.length->Sub (aS.getD i .top) (bs.getD i .top)
def Sub.refl(a:AV):Sub a a:=λ _ _ _ _ h=>h
def Sub.of_eq{a b:AV}(h:a=b):Sub a b:=h▸Sub.refl a
def xGP(sz:Nat):Sub .nils (.list sz []):=λ w A M v h=>by cases h;exact .list0 _ _ _
variable {aS bs:List AV}
def xIh(h:SubL aS bs):Sub (.agg aS) (.agg bs):=λ w A M v hr=>by obtain⟨vs,rfl,h1,h2⟩:=hr.agg_inv;exact .agg vs bs (h1.trans h.1) λ i hi=>h.2 i (h.1.symm▸hi) w A M _ (h2 i (h.1.symm▸hi))
def xE7{w:World}{A:Nat->Prop}{M:Id->Option MB}{vs:List Value}(h:SubL aS bs)(hr:RC w A M vs aS):RC w A M vs bs:=⟨hr.1.trans h.1,λ i hi=>h.2 i (h.1.symm▸hi) w A M _ (hr.2 i (h.1.symm▸hi))⟩
structure SPat (β:Type) where
 enc:β->AV
 dec:AV->Option β
 ok:∀a b,dec a=some b->Sub a (enc b)
structure SPatL (β:Type) where
 enc:β->List AV
 dec:List AV->Option β
 ok:∀a b,dec a=some b->SubL a (enc b)
def sEq(p:Pat AV β):SPat β:=⟨p.enc,p.dec,λ a b h=>Sub.of_eq (p.ok a b h)⟩
def xNf (sz:Nat) (q:Pat (List AV) β):SPat β:=⟨fun b=>.list sz (q.enc b),fun v=>match v with
 |.nils=>q.dec []
 |.list z xs=>match Nat.beq z sz with
  |true=>q.dec xs
  |false=>none
 |_=>none,λ v n h=>by
 split at h
 . rw[<-q.ok _ _ h];exact xGP sz
 . split at h
   . rename_i hz;rw[zg hz,q.ok _ _ h];exact Sub.refl _
   . simp at h
 . simp at h⟩
def xNg (q:SPatL β):SPat β:=⟨fun b=>.agg (q.enc b),fun v=>match v with
 |.agg cs=>q.dec cs
 |_=>none,λ v n h=>by
 split at h
 . exact xIh (q.ok _ _ h)
 . simp at h⟩
def xM2:SPatL Unit:=⟨fun _=>[],fun v=>match v with
 |[]=>some ()
 |_=>none,λ v n h=>by
 split at h
 . exact⟨rfl,λ i hi=>by simp at hi⟩
 . simp at h⟩
def xM0 (p:SPat β) (q:SPatL γ):SPatL (β×γ):=⟨fun b=>p.enc b.1::q.enc b.2,fun v=>match v with
 |x::t=>match p.dec x with
  |some b=>match q.dec t with
   |some c=>some (b,c)
   |none=>none
  |none=>none
 |_=>none,λ v n h=>by
 split at h
 . split at h
   . rename_i hp;split at h
     . rename_i hq;cases h;obtain⟨h1,h2⟩:=q.ok _ _ hq;refine⟨by simp[h1],λ i hi=>?_⟩
       cases i with
       |zero=>exact p.ok _ _ hp
       |succ i=>exact h2 i (by simpa using hi)
     . simp at h
   . simp at h
 . simp at h⟩
def ocOf(pv:SPatL β)(g:β->Bool×AV):List AV->Option (Bool×AV):=λ xs=>match pv.dec xs with|some b=>some (g b)|none=>none
def omOf(pv:SPatL β)(pb:Pat (List Box) γ)(g:β->γ->Bool×AV×List Box):List AV->List Box->Option (Bool×AV×List Box):=λ xs H=>match pv.dec xs with|some b=>(match pb.dec H with|some c=>some (g b c)|none=>none)|none=>none
def lpOf (live liveO:List Nat) (conv:List (Nat×Nat×TypeId)) (pv:Pat (List AV) β) (pb:Pat (List Box) γ) (g:β->γ->Bool×LR):Lp:=⟨live,liveO,conv,fun xs H=>match pv.dec xs with|some b=>(match pb.dec H with|some c=>some (g b c)|none=>none)|none=>none⟩
section
variable{P:Program}{Inv:IV}
variable {n:FuncId}
def xkE{pv:SPatL β}{g:β->Bool×AV}(h:∀b r,g b=(true,r)->Good P Inv n (pv.enc b) r):OcOk P Inv n (ocOf pv g):=λ xs r e=>by unfold ocOf at e;split at e;rename_i b hb;simp only[z6]at e;obtain⟨h1,h2⟩:=h b r e;exact⟨h1,λ w A vs hi ha hr=>h2 w A vs hi ha (xE7 (pv.ok _ _ hb) hr)⟩;simp at e
variable {pb:Pat (List Box) γ}
def xkF{pv:SPatL β}{g:β->γ->Bool×AV×List Box}(h:∀b c r H',g b c=(true,r,H')->GoodM P Inv n (pv.enc b) (pb.enc c) r H'):OmOk P Inv n (omOf pv pb g):=λ xs H r H' e=>by unfold omOf at e;split at e;rename_i b hb;split at e;rename_i c hc;simp only[z6]at e;rw[pb.ok _ _ hc];obtain⟨h1,h2⟩:=h b c r H' e;exact⟨h1,λ w0 w A M vs hi q hR hr=>h2 w0 w A M vs hi q hR (xE7 (pv.ok _ _ hb) hr)⟩;simp at e;simp at e
def xES{nt:Nat}{l:Code}{live liveO:List Nat}{conv:List (Nat×Nat×TypeId)}{pv:Pat (List AV) β}{g:β->γ->Bool×LR}(h:∀b c r,g b c=(true,r)->DoesL P Inv l (λ e1 s1=>e1=r.eval.1/\s1=⟨mkTs nt (liveO.zip r.eval.2.1),r.eval.2.2⟩) ⟨mkTs nt (live.zip (pv.enc b)),pb.enc c⟩):LoopOk P Inv nt l (lpOf live liveO conv pv pb g):=λ vals H r e=>by unfold lpOf at e;dsimp only at e;split at e;rename_i b hb;split at e;rename_i c hc;simp only[z6]at e;rw[pv.ok _ _ hb,pb.ok _ _ hc];exact h b c r e;simp at e;simp at e
end
def xcf{x:Option α}{d:α}(h:x.isSome):x=some (x.getD d):=by cases x with|none=>simp at h|some y=>rfl
end Go.Sim
end
noncomputable section
namespace Go.Sim.M
open Go.RowKit Go.Proofs
def E0:Env:=(((Env.none.with 190 xk7).with 95 xnW).withM 130 xqL).withM 97 xlA
def xJ9:xMh Tryz.prog xMZ E0:=(((xCU.with xtI).with xwC).withM xAK).withM xuj
end Go.Sim.M
end
noncomputable section
namespace Go.Sim
open Go.RowKit
def EncS{α:Type}(f:α->AV)(a:Option α)(b:Option AV):Prop:=∀r,a=some r->∃x,b=some x/\Sub x (f r)
variable {b:Option AV}
def EncS.none{α:Type}{f:α->AV}:EncS f .none b:=λ r h=>by simp at h
def EncS.some{α:Type}{f:α->AV}{a:α}{b:AV}(h:Sub b (f a)):EncS f (Option.some a) (Option.some b):=λ r e=>by cases e;exact⟨b,rfl,h⟩
def EncS.br{α:Type}{f:α->AV}{t:Bool}{a a':Option α}{b':Option AV}(h1:EncS f a b)(h2:EncS f a' b'):EncS f (Sim.br t a a') (Sim.br t b b'):=by cases t<;>assumption
variable {Inv:IV}{P:Program}{args:List AV}
def Good.sub{f:FuncId}{r r':AV}(h:Good P Inv f args r)(hs:Sub r r'):Good P Inv f args r':=⟨h.1,λ w A vs hI hA q=>(h.2 w A vs hI hA q).mono λ e w'⟨v,he,hb,hr⟩=>⟨v,he,hb,hs w' A xMu v hr⟩⟩
variable {H:List Box}{frz:Bool}{k:Nat}{pm:Bool}{sz v v':Nat}{xs:List AV}
def GoodM.bump1{f:FuncId}{ty:TypeId}(Q:isC ty=false)(hv:v<v')(h:GoodM P Inv f args H (.osl (.b 0) v 0 k) [⟨v,sz,ty,xs,frz,pm⟩]):GoodM P Inv f args H (.osl (.b 0) v' 0 k) [⟨v',sz,ty,xs,frz,pm⟩]:=by
 refine⟨h.1,λ w0 w A M vs hI hB hR W=>(h.2 w0 w A M vs hI hB hR W).mono ?_⟩;rintro e w' ⟨u,A',M',rfl,h1,h2,h3,h4,h5⟩;obtain⟨m,g1,g2,g3,g4⟩:=Rel.osl_inv h5;obtain⟨bx,q1,q2⟩:=h4.box _ m g1;have:bx=⟨v,sz,ty,xs,frz,pm⟩:=by have:=q1;rw[xbb]at this;simpa using this.symm
 subst this;have V:v=m.ver:=q2.ver;have O:MExt M' (MSet M' (.b 0) ⟨m.b,v',m.sz,m.cap,m.ty⟩):=xnA g1 (.inr (by simp only;omega));have J:∀id m1,MSet M' (.b 0) ⟨m.b,v',m.sz,m.cap,m.ty⟩ id=some m1->∃m0,M' id=some m0/\m1.b=m0.b/\m1.cap=m0.cap:=λ id m1 q=>by by_cases hi:id=.b 0;subst hi;simp[MSet]at q;subst q;exact⟨m,g1,rfl,rfl⟩;exact⟨m1,by simpa[MSet,hi]using q,rfl,rfl⟩
 have hR':HR w' A' (MSet M' (.b 0) ⟨m.b,v',m.sz,m.cap,m.ty⟩) w0.heap.size [⟨v',sz,ty,xs,frz,pm⟩]:=by refine⟨λ id m1 q=>?_,λ id id' m1 m2 k1 k2 c1 c2 he=>?_,h4.lt⟩;by_cases hi:id=.b 0;(subst hi;have:m1=⟨m.b,v',m.sz,m.cap,m.ty⟩:=by simp[MSet]at q;exact q.symm);subst this;have q3:=q2.mono (w':=w') (λ _=>rfl) (λ _ _ _=>rfl) (zd _) (λ _ _ h=>h) q2.guard O;exact⟨⟨v',sz,ty,xs,frz,pm⟩,rfl,rfl,q3.sz,q3.ty,q3.capm,q3.fits,q3.ok,q3.low,q3.lt,q3.cells,q3.guard⟩;(have Y:M' id=some m1:=by simpa[MSet,hi]using q);(obtain⟨bx,k1,k2⟩:=h4.box id m1 Y;have k3:getB [⟨v',sz,ty,xs,frz,pm⟩] id=some bx:=by rw[<-k1];exact xce (H:=[⟨v,sz,ty,xs,frz,pm⟩]) (n:=0) (bx:=⟨v,sz,ty,xs,frz,pm⟩) (bx':=⟨v',sz,ty,xs,frz,pm⟩) rfl Q Q hi);exact⟨bx,k3,k2.mono (λ _=>rfl) (λ _ _ _=>rfl) (zd _) (λ _ _ h=>h) k2.guard O⟩;obtain⟨n1,a1,a2,a3⟩:=J id m1 k1;obtain⟨n2,b1,b2,b3⟩:=J id' m2 k2;exact h4.inj id id' n1 n2 a1 b1 (by omega) (by omega) (by rw[<-a2,<-b2,he])
 refine⟨u,A',MSet M' (.b 0) ⟨m.b,v',m.sz,m.cap,m.ty⟩,rfl,h1,h2,h3.step ⟨zd _,λ _ _ _=>rfl,λ _ _ h=>h,λ _ _ h _=>h,O,⟨λ _ _ _=>rfl,λ id m1 q h0=>?_⟩⟩,hR',?_⟩;obtain⟨n1,a1,a2,a3⟩:=J id m1 q;exact .inl ⟨id,n1,a1,by omega,a2⟩;exact .osl u (.b 0) v' 0 k ⟨m.b,v',m.sz,m.cap,m.ty⟩ (by simp[MSet]) (zd _) g3 λ _=>g4 V
def GoodM.weaken{f:FuncId}{H1 H2:List Box}{r r2:AV}(h:GoodM P Inv f args H r H1)(hw:∀w A M B v,HR w A M B H1->Rel w A M v r->∃M',HR w A M' B H2/\Mv w A M w A M'/\Rel w A M' v r2):GoodM P Inv f args H r2 H2:=by refine⟨h.1,λ w0 w A M vs hI hB hR q=>(h.2 w0 w A M vs hI hB hR q).mono ?_⟩;rintro e w' ⟨u,A',M',rfl,h1,h2,h3,h4,h5⟩;obtain⟨M2,g1,g2,g3⟩:=hw w' A' M' _ u h4 h5;exact⟨u,A',M2,rfl,h1,h2,h3.step g2,g1,g3⟩
def xEp{w:World}{A:Nat->Prop}{M:Id->Option MB}{B:Nat}(hR:HR w A M B H){n:Nat}{m:MB}{bx:Box}(hm:M (.b n)=some m)(hb:H[n]?=some bx)(V:isC bx.ty=false)(v:Nat)(hv:m.ver<v)(sz:Nat)(ty:TypeId)(O:isC ty=false):HR w A (MSet M (.b n) ⟨m.b,v,sz,0,ty⟩) B (H.set n ⟨v,sz,ty,[],false,true⟩)/\Mv w A M w A (MSet M (.b n) ⟨m.b,v,sz,0,ty⟩):=by
 have J:MExt M (MSet M (.b n) ⟨m.b,v,sz,0,ty⟩):=xnA hm (.inr hv);have hc:∀{p:Prop},0<(0:Nat)->p:=λ h=>absurd h (by omega);have q:∀i m1,MSet M (.b n) ⟨m.b,v,sz,0,ty⟩ i=some m1->0<m1.cap->i≠.b n/\M i=some m1:=λ i m1 h1 h0=>by by_cases hi:i=.b n;subst hi;simp[MSet]at h1;subst h1;exact absurd h0 (by simp);exact⟨hi,by simpa[MSet,hi]using h1⟩
 refine⟨⟨λ i m1 h1=>?_,λ i i' m1 m2 h1 h2 c1 c2 he=>hR.inj i i' m1 m2 (q i m1 h1 c1).2 (q i' m2 h2 c2).2 c1 c2 he,hR.lt⟩,⟨zd _,λ _ _ _=>rfl,λ _ _ h=>h,λ _ _ h _=>h,J,⟨λ _ _ _=>rfl,λ i m1 h1 h0=>.inl ⟨i,m1,(q i m1 h1 h0).2,h0,rfl⟩⟩⟩⟩;by_cases hi:i=.b n;subst hi;have:m1=⟨m.b,v,sz,0,ty⟩:=by simp[MSet]at h1;exact h1.symm
 subst this;exact⟨⟨v,sz,ty,[],false,true⟩,by rw[xbb,zL (xct hb)],rfl,rfl,xbu O,zQ _,zQ _,λ x hx=>by simp at hx,hc,hc,hc,hc⟩;have W:M i=some m1:=by simpa[MSet,hi]using h1
 obtain⟨Q,g1,g2⟩:=hR.box i m1 W;exact⟨Q,by rw[xce hb V O hi];exact g1,g2.mono (λ _=>rfl) (λ _ _ _=>rfl) (zd _) (λ _ _ h=>h) g2.guard J⟩
def GoodM.drop0{f:FuncId}{w V:Nat}{ty q:TypeId}{ys:List AV}{J Q:Bool}(O:isC ty=false)(hv:v<v')(h:GoodM P Inv f args H (.osl (.b 1) w 0 k) [⟨v,sz,ty,xs,frz,pm⟩,⟨w,V,q,ys,J,Q⟩]):GoodM P Inv f args H (.osl (.b 1) w 0 k) [⟨v',sz,ty,[],false,true⟩,⟨w,V,q,ys,J,Q⟩]:=h.weaken λ w1 A M B u hR hr=>by cases hm:M (.b 0)with|some m=>(obtain⟨bx,q1,q2⟩:=hR.box _ m hm;have hb:[(⟨v,sz,ty,xs,frz,pm⟩:Box),⟨w,V,q,ys,J,Q⟩][0]?=some ⟨v,sz,ty,xs,frz,pm⟩:=rfl;rw[xbb,hb]at q1;cases q1;obtain⟨g1,g2⟩:=xEp hR hm hb O v' (by have:v=m.ver:=q2.ver;omega) sz ty O;exact⟨_,g1,g2,g2.rel hr⟩)|none=>refine⟨M,⟨λ i m W=>?_,hR.inj,hR.lt⟩,Mv.refl,hr⟩;obtain⟨bx,q1,q2⟩:=hR.box i m W;refine⟨bx,?_,q2⟩;by_cases hi:i=.b 0;subst hi;rw[hm]at W;cases W;rw[<-q1];exact xce (H:=[⟨v,sz,ty,xs,frz,pm⟩,⟨w,V,q,ys,J,Q⟩]) (n:=0) (bx:=⟨v,sz,ty,xs,frz,pm⟩) (bx':=⟨v',sz,ty,[],false,true⟩) rfl O O hi
def GoodM.move0{f:FuncId}{w:Nat}{ty:TypeId}(q:isC ty=false)(hv:v<v')(h:GoodM P Inv f args H (.osl (.b 0) v 0 k) [⟨v,sz,ty,xs,frz,true⟩]):GoodM P Inv f args H (.osl (.b 1) w 0 k) [⟨v',sz,ty,[],false,true⟩,⟨w,sz,ty,xs,frz,true⟩]:=h.weaken λ w1 A M B u hR hr=>by
 obtain⟨m,g1,g2,g3,g4⟩:=Rel.osl_inv hr;obtain⟨bx,q1,q2⟩:=hR.box _ m g1;have:bx=⟨v,sz,ty,xs,frz,true⟩:=by have:=q1;rw[xbb]at this;simpa using this.symm
 subst this;have Q:v=m.ver:=q2.ver;have W:M (.b 1)=none:=by cases h1:M (.b 1)with|none=>rfl|some m1=>obtain⟨b1,k1,_⟩:=hR.box _ m1 h1;rw[xbb]at k1;simp at k1
 have V:∀n i j m1,M (.r n i j)=some m1->n=0:=λ n i j m1 h1=>by obtain⟨b1,k1,_⟩:=hR.box _ m1 h1;obtain⟨b0,k2,_⟩:=xmz k1;have:=xct k2;simp at this;omega
 let M2:Id->Option MB:=MSet (MSet M (.b 0) ⟨m.b,v',sz,0,ty⟩) (.b 1) ⟨m.b,w,m.sz,m.cap,m.ty⟩;have e1:M2 (.b 1)=some ⟨m.b,w,m.sz,m.cap,m.ty⟩:=by simp[M2,MSet]
 have e0:M2 (.b 0)=some ⟨m.b,v',sz,0,ty⟩:=by simp[M2,MSet]
 have eo:∀i,i≠.b 0->i≠.b 1->M2 i=M i:=λ i h0 h1=>by simp[M2,MSet,h0,h1]
 have J:MExt M M2:=λ i m1 h1=>by by_cases h0:i=.b 0;subst h0;rw[g1]at h1;cases h1;exact⟨_,e0,.inr (by simp only;omega)⟩;by_cases h2:i=.b 1;subst h2;rw[W]at h1;cases h1;exact⟨m1,by rw[eo i h0 h2];exact h1,.inl rfl⟩
 have O:∀i m1,M2 i=some m1->0<m1.cap->i≠.b 0/\∃i0 m0,M i0=some m0/\m0.b=m1.b/\m0.cap=m1.cap/\(i=.b 1->i0=.b 0)/\(i≠.b 1->i0=i):=λ i m1 h1 h0=>by by_cases hi:i=.b 0;subst hi;rw[e0]at h1;cases h1;exact absurd h0 (by simp);refine⟨hi,?_⟩;by_cases h2:i=.b 1;subst h2;rw[e1]at h1;cases h1;exact⟨.b 0,m,g1,rfl,rfl,λ _=>rfl,λ h=>absurd rfl h⟩;rw[eo i hi h2]at h1;exact⟨i,m1,h1,rfl,rfl,λ h=>absurd h h2,λ _=>rfl⟩
 refine⟨M2,⟨λ i m1 h1=>?_,λ i i' m1 m2 h1 h2 c1 c2 he=>?_,hR.lt⟩,⟨zd _,λ _ _ _=>rfl,λ _ _ h=>h,λ _ _ h _=>h,J,⟨λ _ _ _=>rfl,λ i m1 h1 h0=>?_⟩⟩,?_⟩;by_cases hi:i=.b 0;subst hi;rw[e0]at h1;cases h1;have hc:∀{p:Prop},0<(0:Nat)->p:=λ h=>absurd h (by omega)
 exact⟨⟨v',sz,ty,[],false,true⟩,rfl,rfl,rfl,xbu q,zQ _,zQ _,λ x hx=>by simp at hx,hc,hc,hc,hc⟩;by_cases h2:i=.b 1;subst h2;rw[e1]at h1;cases h1;have q3:=q2.mono (w':=w1) (A':=A) (λ _=>rfl) (λ _ _ _=>rfl) (zd _) (λ _ _ h=>h) q2.guard J;refine⟨⟨w,sz,ty,xs,frz,true⟩,rfl,rfl,q3.sz,q3.ty,q3.capm,q3.fits,q3.ok,q3.low,q3.lt,λ h0=>?_,q3.guard⟩;obtain⟨c,c1,c2,c3⟩:=q3.cells h0;refine⟨c,c1,c2,λ i j hi hj=>?_⟩;have:=c3 i j hi hj;rw[xat q,xa3 q]at this;rw[xat q,xa3 (bx:=⟨w,sz,ty,xs,frz,true⟩) q];exact this;rw[eo i hi h2]at h1;obtain⟨b1,k1,k2⟩:=hR.box i m1 h1;cases i with|b n=>(rw[xbb]at k1;have:=xct k1;have:n=0:=by simp at this;omega);subst this;exact absurd rfl hi|r n a b=>have hn:=V n a b m1 h1;subst hn;rw[xdz (H:=[⟨v,sz,ty,xs,frz,true⟩]) (by rfl) q]at k1;cases k1;exact⟨tombB,xdz (by rfl) q,k2.mono (λ _=>rfl) (λ _ _ _=>rfl) (zd _) (λ _ _ h=>h) k2.guard J⟩
 obtain⟨a1,i0,n0,a2,a3,a4,a5,a6⟩:=O i m1 h1 c1;obtain⟨b1,j0,n1,b2,b3,b4,b5,b6⟩:=O i' m2 h2 c2;have:=hR.inj i0 j0 n0 n1 a2 b2 (by omega) (by omega) (by rw[a3,b3,he]);by_cases hi:i=.b 1;by_cases hj:i'=.b 1;rw[hi,hj];rw[a5 hi,b6 hj]at this;exact absurd this.symm b1;by_cases hj:i'=.b 1;rw[a6 hi,b5 hj]at this;exact absurd this a1;rw[a6 hi,b6 hj]at this;exact this;obtain⟨a1,i0,n0,a2,a3,a4,_,_⟩:=O i m1 h1 h0;exact .inl ⟨i0,n0,a2,by omega,a3.symm⟩;exact .osl u (.b 1) w 0 k ⟨m.b,w,m.sz,m.cap,m.ty⟩ e1 (zd _) g3 λ _=>g4 Q
end Go.Sim
end
noncomputable section
namespace Go.Sim
open Go.RowKit Go.Proofs
noncomputable abbrev P0:Program:=Tryz.prog
section
variable{α β γ ρ σ:Type}
def qI:Pat AV Int:=pInt .i64
def qL(k:Nat):Pat AV (List AV):=xNh k xM3
def qB{β:Type}(v s t:Nat)(q:Pat (List AV) β):Pat Box β:=xNe v s t false true q
def bF(v s t:Nat)(x:List AV):Box:=⟨v,s,t,x,false,true⟩
def uI:SPat Int:=sEq qI
def uL(k:Nat):SPat (List AV):=xNf k xM3
def q1{α α0:Type}(a:Pat α α0):Pat (List α) (α0×Unit):=xMx a (xM1)
def q2{α α0 α1:Type}(a:Pat α α0)(b:Pat α α1):Pat (List α) (α0×α1×Unit):=xMx a (xMx b (xM1))
def q3{α α0 α1 α2:Type}(a:Pat α α0)(b:Pat α α1)(c:Pat α α2):Pat (List α) (α0×α1×α2×Unit):=xMx a (xMx b (xMx c (xM1)))
def q4{α α0 α1 α2 α3:Type}(a:Pat α α0)(b:Pat α α1)(c:Pat α α2)(d:Pat α α3):Pat (List α) (α0×α1×α2×α3×Unit):=xMx a (xMx b (xMx c (xMx d (xM1))))
def q5{α α0 α1 α2 α3 α4:Type}(a:Pat α α0)(b:Pat α α1)(c:Pat α α2)(d:Pat α α3)(e:Pat α α4):Pat (List α) (α0×α1×α2×α3×α4×Unit):=xMx a (xMx b (xMx c (xMx d (xMx e (xM1)))))
def q6{α α0 α1 α2 α3 α4 α5:Type}(a:Pat α α0)(b:Pat α α1)(c:Pat α α2)(d:Pat α α3)(e:Pat α α4)(f:Pat α α5):Pat (List α) (α0×α1×α2×α3×α4×α5×Unit):=xMx a (xMx b (xMx c (xMx d (xMx e (xMx f (xM1))))))
def q7{α α0 α1 α2 α3 α4 α5 α6:Type}(a:Pat α α0)(b:Pat α α1)(c:Pat α α2)(d:Pat α α3)(e:Pat α α4)(f:Pat α α5)(g:Pat α α6):Pat (List α) (α0×α1×α2×α3×α4×α5×α6×Unit):=xMx a (xMx b (xMx c (xMx d (xMx e (xMx f (xMx g (xM1)))))))
def q8{α α0 α1 α2 α3 α4 α5 α6 α7:Type}(a:Pat α α0)(b:Pat α α1)(c:Pat α α2)(d:Pat α α3)(e:Pat α α4)(f:Pat α α5)(g:Pat α α6)(h:Pat α α7):Pat (List α) (α0×α1×α2×α3×α4×α5×α6×α7×Unit):=xMx a (xMx b (xMx c (xMx d (xMx e (xMx f (xMx g (xMx h (xM1))))))))
def q9{α α0 α1 α2 α3 α4 α5 α6 α7 α8:Type}(a:Pat α α0)(b:Pat α α1)(c:Pat α α2)(d:Pat α α3)(e:Pat α α4)(f:Pat α α5)(g:Pat α α6)(h:Pat α α7)(i:Pat α α8):Pat (List α) (α0×α1×α2×α3×α4×α5×α6×α7×α8×Unit):=xMx a (xMx b (xMx c (xMx d (xMx e (xMx f (xMx g (xMx h (xMx i (xM1)))))))))
def q10{α α0 α1 α2 α3 α4 α5 α6 α7 α8 α9:Type}(a:Pat α α0)(b:Pat α α1)(c:Pat α α2)(d:Pat α α3)(e:Pat α α4)(f:Pat α α5)(g:Pat α α6)(h:Pat α α7)(i:Pat α α8)(j:Pat α α9):Pat (List α) (α0×α1×α2×α3×α4×α5×α6×α7×α8×α9×Unit):=xMx a (xMx b (xMx c (xMx d (xMx e (xMx f (xMx g (xMx h (xMx i (xMx j (xM1))))))))))
def u1{α0:Type}(a:SPat α0):SPatL (α0×Unit):=xM0 a (xM2)
def u2{α0 α1:Type}(a:SPat α0)(b:SPat α1):SPatL (α0×α1×Unit):=xM0 a (xM0 b (xM2))
def u3{α0 α1 α2:Type}(a:SPat α0)(b:SPat α1)(c:SPat α2):SPatL (α0×α1×α2×Unit):=xM0 a (xM0 b (xM0 c (xM2)))
def u4{α0 α1 α2 α3:Type}(a:SPat α0)(b:SPat α1)(c:SPat α2)(d:SPat α3):SPatL (α0×α1×α2×α3×Unit):=xM0 a (xM0 b (xM0 c (xM0 d (xM2))))
def u5{α0 α1 α2 α3 α4:Type}(a:SPat α0)(b:SPat α1)(c:SPat α2)(d:SPat α3)(e:SPat α4):SPatL (α0×α1×α2×α3×α4×Unit):=xM0 a (xM0 b (xM0 c (xM0 d (xM0 e (xM2)))))
def u6{α0 α1 α2 α3 α4 α5:Type}(a:SPat α0)(b:SPat α1)(c:SPat α2)(d:SPat α3)(e:SPat α4)(f:SPat α5):SPatL (α0×α1×α2×α3×α4×α5×Unit):=xM0 a (xM0 b (xM0 c (xM0 d (xM0 e (xM0 f (xM2))))))
def u7{α0 α1 α2 α3 α4 α5 α6:Type}(a:SPat α0)(b:SPat α1)(c:SPat α2)(d:SPat α3)(e:SPat α4)(f:SPat α5)(g:SPat α6):SPatL (α0×α1×α2×α3×α4×α5×α6×Unit):=xM0 a (xM0 b (xM0 c (xM0 d (xM0 e (xM0 f (xM0 g (xM2)))))))
def LR.okB:LR->Bool|.leaf e _ _=>(match e with|.normal=>false|_=>true)|.node _ a b=>a.okB&&b.okB
def LR.okB_ne:∀{r:LR},r.okB->r.eval.1≠.normal|.leaf e _ _,h=>λ c=>by have c:e=.normal:=c;subst c;simp[LR.okB]at h|.node true a b,h=>LR.okB_ne (r:=a) (by simp only[LR.okB,zf]at h;exact h.1)|.node false a b,h=>LR.okB_ne (r:=b) (by simp only[LR.okB,zf]at h;exact h.2)
abbrev StT(σ ρ:Type):=σ->Option (σ⊕ρ)
def inL{σ ρ:Type}(s:σ):Option (σ⊕ρ):=some (.inl s)
def inR{σ ρ:Type}(p:ρ):Option (σ⊕ρ):=some (.inr p)
def ixI(l:List AV)(i:Int):Bool:=decide ((0:Int)<=i)&&decide (i<(↑l.length:Int))
def ixS(l:List AV)(i:Int)(s:Sh)(k:Nat):Bool:=decide (i.toNat<l.length)&&xMf s ((l.getD i.toNat .top).cells.getD k .top)
def ixT(l:List AV)(i:Int)(n:Nat)(ss:List Sh)(k:Nat):Bool:=decide (i.toNat<l.length)&&((l.getD i.toNat .top).cells.length==n&&xMm ss (l.getD i.toNat .top).cells k)
def gC(l:List AV)(i:Int)(k:Nat):AV:=(l.getD i.toNat .top).cells.getD k .top
def rmB(n:Nat)(l:List AV)(c z:Nat):Bool:=n==l.length&&(decide ((n+c)*z<=140737488355328)&&decide (n+c<=4611686018427387904))
abbrev RT:=Exit×List AV×List Box
abbrev HL(E:Env)(nt pin:Nat)(ls:List TypeId)(lp:List (Nat×Lp))(fn:Func):Prop:=LoOk Tryz.prog (xMZ.at pin) (E.fn nt pin (lsOf ls) (xME lp)) (fn.body.getD .skip)
abbrev FX(E:Env)(nt pin:Nat)(ls:List TypeId)(lp:List (Nat×Lp))(fn:Func)(pv:SPatL β)(t:β->(T:Type)->T->(ρ->T)->T)(e:β->ρ->AV):Prop:=∀b,XF Tryz.prog (E.fn nt pin (lsOf ls) (xME lp)) fn (fn.body.getD .skip) (pv.enc b)=t b (Option AV) none λ p=>some (e b p)
abbrev FE(t:β->(T:Type)->T->(ρ->T)->T)(e:β->ρ->AV):Prop:=∀b,Enc (e b) (t b (Option ρ) none some) (t b (Option AV) none λ p=>some (e b p))
abbrev MX(E:Env)(nt pin:Nat)(ls:List TypeId)(lp:List (Nat×Lp))(fn:Func)(pv:SPatL β)(pb:Pat (List Box) γ)(t:β->γ->(T:Type)->T->(ρ->T)->T)(e:β->γ->ρ->AV×List Box):Prop:=∀b c,XFM Tryz.prog (E.fn nt pin (lsOf ls) (xME lp)) fn (fn.body.getD .skip) (pv.enc b) (pb.enc c)=t b c (Option (AV×List Box)) none λ p=>some (e b c p)
abbrev ME(t:β->γ->(T:Type)->T->(ρ->T)->T)(e:β->γ->ρ->AV×List Box):Prop:=∀b c,Enc (e b c) (t b c (Option ρ) none some) (t b c (Option (AV×List Box)) none λ p=>some (e b c p))
abbrev TX(E:Env)(nt pin:Nat)(ls:List TypeId)(lp:List (Nat×Lp))(fn:Func)(pv:SPatL β)(t:β->(ρ->Option AV)->Option AV)(e:β->ρ->AV):Prop:=∀b,XF Tryz.prog (E.fn nt pin (lsOf ls) (xME lp)) fn (fn.body.getD .skip) (pv.enc b)=t b λ p=>some (e b p)
noncomputable abbrev LX(E:Env)(nt pin:Nat)(ls:List TypeId)(lp:List (Nat×Lp))(l:Code)(lv lo:List Nat)(cv:List (Nat×Nat×TypeId))(pv:Pat (List AV) β)(pb:Pat (List Box) γ)(F:β->γ->(σ->Option (σ⊕ρ))×σ×(ρ->LR))(G:β->γ->σ->(β×γ)×((σ->Option RT)->(ρ->Option RT)->Option RT)):Prop:=∀b c s,XR Tryz.prog (E.fn nt pin (lsOf ls) (xME lp)) lv lo cv l (pv.enc (G b c s).1.1) (pb.enc (G b c s).1.2)=(G b c s).2 (λ s=>some (encR (λ s=>(pv.enc (G b c s).1.1,pb.enc (G b c s).1.2)) (F b c).2.2 (.inl s))) λ p=>some (encR (λ s=>(pv.enc (G b c s).1.1,pb.enc (G b c s).1.2)) (F b c).2.2 (.inr p))
abbrev LE(pv:Pat (List AV) β)(pb:Pat (List Box) γ)(F:β->γ->(σ->Option (σ⊕ρ))×σ×(ρ->LR))(G:β->γ->σ->(β×γ)×((σ->Option RT)->(ρ->Option RT)->Option RT)):Prop:=∀b c s,Enc (encR (λ s=>(pv.enc (G b c s).1.1,pb.enc (G b c s).1.2)) (F b c).2.2) ((F b c).1 s) ((G b c s).2 (λ s=>some (encR (λ s=>(pv.enc (G b c s).1.1,pb.enc (G b c s).1.2)) (F b c).2.2 (.inl s))) λ p=>some (encR (λ s=>(pv.enc (G b c s).1.1,pb.enc (G b c s).1.2)) (F b c).2.2 (.inr p)))
variable {a:Option α}{b:Option β}
def eV{f:α->β}(Y:Option β)(h:b=Y)(he:Enc f a Y):Enc f a b:=h▸he
abbrev LA:=List AV
variable {P:Program}
def lkN{Inv:IV}{E:Env}:∀c,c∈([]:List Code)->∀lp,E.lp (xMv c)=some lp->LoopOk P Inv E.nt c lp:=λ c h=>by simp at h
def lkC{Inv:IV}{E:Env}{l:Code}{ls:List Code}{lp0:Lp}(hok:LoopOk P Inv E.nt l lp0)(ht:∀c,c∈ls->∀lp,E.lp (xMv c)=some lp->LoopOk P Inv E.nt c lp)(h:E.lp (xMv l)=some lp0:=by kernel_rfl):∀c,c∈l::ls->∀lp,E.lp (xMv c)=some lp->LoopOk P Inv E.nt c lp:=λ c hc lp hs=>by rcases zC.1 hc with rfl|hc;rw[h,z6]at hs;subst hs;exact hok;exact ht c hc lp hs
def eN{f:α->β}:Enc f none b:=Enc.none
def eS{f:α->β}{a:α}{b:β}(h:b=f a):Enc f (some a) (some b):=Enc.some h
def eB{f:α->β}{t:Bool}{a':Option α}{b':Option β}(h1:Enc f a b)(h2:Enc f a' b'):Enc f (br t a a') (br t b b'):=Enc.br h1 h2
def fnO(pv:SPatL β)(t:β->(T:Type)->T->(ρ->T)->T)(e:β->ρ->AV)(d:ρ):List AV->Option (Bool×AV):=ocOf pv λ b=>((t b (Option ρ) none some).isSome,e b ((t b (Option ρ) none some).getD d))
def fmO(pv:SPatL β)(pb:Pat (List Box) γ)(t:β->γ->(T:Type)->T->(ρ->T)->T)(e:β->γ->ρ->AV×List Box)(d:ρ):List AV->List Box->Option (Bool×AV×List Box):=omOf pv pb λ b c=>((t b c (Option ρ) none some).isSome,e b c ((t b c (Option ρ) none some).getD d))
noncomputable def lpO(lv lo:List Nat)(cv:List (Nat×Nat×TypeId))(pv:Pat (List AV) β)(pb:Pat (List Box) γ)(F:β->γ->(σ->Option (σ⊕ρ))×σ×(ρ->LR))(d:ρ):Lp:=lpOf lv lo cv pv pb λ b c=>((Iter (F b c).1 (F b c).2.1).isSome,(F b c).2.2 ((Iter (F b c).1 (F b c).2.1).getD d))
section
variable{E:Env}
def Tot{α:Type}(e:ρ->α)(a:ρ)(x:Option α):Prop:=x=some (e a)
def eT{α:Type}{e:ρ->α}{t:Bool}{a b:ρ}{x y:Option α}(h1:Tot e a x)(h2:Tot e b y):Tot e (br t a b) (br t x y):=by cases t<;>assumption
def eU{α:Type}{e:ρ->α}{a:ρ}{x:α}(h:x=e a):Tot e a (some x):=congrArg some h
def ftO(pv:SPatL β)(f:β->ρ)(e:β->ρ->AV):List AV->Option (Bool×AV):=ocOf pv λ b=>(true,e b (f b))
variable {g:FuncId}
def ftC(h:xMh Tryz.prog xMZ E){fn:Func}(hf:Tryz.prog.funcs[g]?=some fn)(nt pin:Nat)(ls:List TypeId)(lp:List (Nat×Lp)){pv:SPatL β}{f:β->ρ}{e:β->ρ->AV}
  (hl:HL E nt pin ls lp fn) (t:β->(ρ->Option AV)->Option AV) (hx:TX E nt pin ls lp fn pv t e:=by intro b;kernel_rfl)
  (he:∀b,Tot (e b) (f b) (t b λ p=>some (e b p)):=by intro b;repeat' first|apply eT|exact eU rfl)
  (hb:fn.body.isSome:=by exact rfl) (hn:(fn.name == "runtime.NumGoroutine")=false:=by kernel_rfl):OcOk Tryz.prog xMZ g (ftO pv f e):=xkE λ b r hh=>by
 obtain⟨_,h2⟩:=Prod.mk.inj hh;subst h2;exact xlF (p:=pin) (xpv xMq (xMr Tryz.prog _) rfl h.fn hf hb hn hl ((hx b).trans (he b)))
variable {Inv:IV}{c:Code}
def lk0(h:xMB c=[]:=by kernel_rfl)(hc:((xMw c).all λ d=>(E.lp (condId d)).isNone):=by kernel_rfl):LoOk Tryz.prog Inv E c:=xfw h hc
def lk1{l:Code}{lp0:Lp}(hok:LoopOk Tryz.prog Inv E.nt l lp0)(h:xMB c=[l]:=by kernel_rfl)(he:E.lp (xMv l)=some lp0:=by kernel_rfl)(hc:((xMw c).all λ d=>(E.lp (condId d)).isNone):=by kernel_rfl):LoOk Tryz.prog Inv E c:=xnz h (lkC hok lkN he) hc
structure EO where
 E:Env
 ok:xMh Tryz.prog xMZ E
def EO.w(e:EO){o:List AV->Option (Bool×AV)}(c:OcOk Tryz.prog xMZ g o):EO:=⟨e.E.with g o,e.ok.with c⟩
def EO.wM(e:EO){o:List AV->List Box->Option (Bool×AV×List Box)}(c:OmOk Tryz.prog xMZ g o):EO:=⟨e.E.withM g o,e.ok.withM c⟩
variable {d:ρ}
def fnC(h:xMh Tryz.prog xMZ E){fn:Func}(hf:Tryz.prog.funcs[g]?=some fn)(nt pin:Nat)(ls:List TypeId)(lp:List (Nat×Lp)){pv:SPatL β}{t:β->(T:Type)->T->(ρ->T)->T}{e:β->ρ->AV}
  (hl:HL E nt pin ls lp fn) (hx:FX E nt pin ls lp fn pv t e:=by intro b;kernel_rfl)
  (he:FE t e:=by intro b;repeat' first|apply eB|exact eN|exact eS rfl)
  (hb:fn.body.isSome:=by exact rfl) (hn:(fn.name == "runtime.NumGoroutine")=false:=by kernel_rfl):OcOk Tryz.prog xMZ g (fnO pv t e d):=xkE λ b r hh=>by
 obtain⟨h1,h2⟩:=Prod.mk.inj hh;subst h2;exact xlF (p:=pin) (xpv xMq (xMr Tryz.prog _) rfl h.fn hf hb hn hl ((hx b).trans (he b _ (xcf h1))))
variable {pb:Pat (List Box) γ}
def fmC(h:xMh Tryz.prog xMZ E){fn:Func}(hf:Tryz.prog.funcs[g]?=some fn)(nt pin:Nat)(ls:List TypeId)(lp:List (Nat×Lp)){pv:SPatL β}{t:β->γ->(T:Type)->T->(ρ->T)->T}{e:β->γ->ρ->AV×List Box}
  (hl:HL E nt pin ls lp fn) (hx:MX E nt pin ls lp fn pv pb t e:=by intro b c;kernel_rfl)
  (he:ME t e:=by intro b c;repeat' first|apply eB|exact eN|exact eS rfl)
  (hp:∀c,(pb.enc c).length=pin:=by exact λ _=>rfl) (hb:fn.body.isSome:=by exact rfl) (hn:(fn.name == "runtime.NumGoroutine")=false:=by kernel_rfl):OmOk Tryz.prog xMZ g (fmO pv pb t e d):=xkF λ b c r H' hh=>by
 obtain⟨h1,h2⟩:=Prod.mk.inj hh;exact xl3 (p:=pin) (xl2 xMq (xMr Tryz.prog _) rfl h.fn (hp c) hf hb hn hl (((hx b c).trans (he b c _ (xcf h1))).trans (congrArg some h2)))
def lpC(h:xMh Tryz.prog xMZ E)(nt pin:Nat)(ls:List TypeId)(lp:List (Nat×Lp)){l:Code}{lv lo:List Nat}{cv:List (Nat×Nat×TypeId)}{pv:Pat (List AV) β}{F:β->γ->(σ->Option (σ⊕ρ))×σ×(ρ->LR)}
  (hl:LoOk Tryz.prog (xMZ.at pin) (E.fn nt pin (lsOf ls) (xME lp)) l) (G:β->γ->σ->(β×γ)×((σ->Option RT)->(ρ->Option RT)->Option RT))
  (hx:LX E nt pin ls lp l lv lo cv pv pb F G:=by intro b c s;kernel_rfl)
  (he:LE pv pb F G:=by intro b c s;repeat' first|apply eB|exact eN|exact eS rfl)
  (hM:∀b c,(G b c (F b c).2.1).1=(b,c):=by exact λ _ _=>rfl) (ho:∀b c r,((F b c).2.2 r).okB:=by exact λ _ _ _=>rfl):LoopOk Tryz.prog (xMZ.at pin) nt l (lpO lv lo cv pv pb F d):=xES λ b c r hh=>by
 obtain⟨h1,h2⟩:=Prod.mk.inj hh;subst h2;have:=xvk xMq (xMr Tryz.prog _) rfl (h.fn (nt:=nt) (pin:=pin) (ls:=lsOf ls) (lp:=xME lp)) hl (λ s=>(pv.enc (G b c s).1.1,pb.enc (G b c s).1.2)) (F b c).2.2 (λ p=>LR.okB_ne (ho b c p)) (λ s r hr=>(hx b c s).trans (he b c s r hr)) (xcf (d:=d) h1)
 dsimp only at this;rw[hM b c]at this;exact this
structure LO (pin nt:Nat) (l:Code) where
 lp:Lp
 ok:LoopOk Tryz.prog (xMZ.at pin) nt l lp
noncomputable def EO.f(x:EO){fn:Func}(hf:Tryz.prog.funcs[g]?=some fn)(nt pin:Nat)(ls:List TypeId)(lp:List (Nat×Lp))
 (hl:HL x.E nt pin ls lp fn) (pv:SPatL β) (t:β->(T:Type)->T->(ρ->T)->T) (e:β->ρ->AV) (d:ρ) (hx:FX x.E nt pin ls lp fn pv t e:=by intro b;kernel_rfl)
 (he:FE t e:=by intro b;repeat' first|apply eB|exact eN|exact eS rfl)
 (hb:fn.body.isSome:=by exact rfl) (hn:(fn.name == "runtime.NumGoroutine")=false:=by kernel_rfl):EO:=x.w (fnC (d:=d) x.ok hf nt pin ls lp hl hx he hb hn)
noncomputable def EO.fM(x:EO){fn:Func}(hf:Tryz.prog.funcs[g]?=some fn)(nt pin:Nat)(ls:List TypeId)(lp:List (Nat×Lp))
 (hl:HL x.E nt pin ls lp fn) (pv:SPatL β) (pb:Pat (List Box) γ) (t:β->γ->(T:Type)->T->(ρ->T)->T) (e:β->γ->ρ->AV×List Box) (d:ρ) (hx:MX x.E nt pin ls lp fn pv pb t e:=by intro b c;kernel_rfl)
 (he:ME t e:=by intro b c;repeat' first|apply eB|exact eN|exact eS rfl)
 (hp:∀c,(pb.enc c).length=pin:=by exact λ _=>rfl) (hb:fn.body.isSome:=by exact rfl) (hn:(fn.name == "runtime.NumGoroutine")=false:=by kernel_rfl):EO:=x.wM (fmC (d:=d) x.ok hf nt pin ls lp hl hx he hp hb hn)
noncomputable def EO.fT(x:EO){fn:Func}(hf:Tryz.prog.funcs[g]?=some fn)(nt pin:Nat)(ls:List TypeId)(lp:List (Nat×Lp))
 (hl:HL x.E nt pin ls lp fn) (t:β->(ρ->Option AV)->Option AV) (pv:SPatL β) (f:β->ρ) (e:β->ρ->AV) (hx:TX x.E nt pin ls lp fn pv t e:=by intro b;kernel_rfl)
 (he:∀b,Tot (e b) (f b) (t b λ p=>some (e b p)):=by intro b;repeat' first|apply eT|exact eU rfl)
 (hb:fn.body.isSome:=by exact rfl) (hn:(fn.name == "runtime.NumGoroutine")=false:=by kernel_rfl):EO:=x.w (ftC x.ok hf nt pin ls lp hl t hx he hb hn)
noncomputable def EO.l(x:EO)(nt pin:Nat)(ls:List TypeId)(lp:List (Nat×Lp))(fn:Func)(k:Nat)(hl:LoOk Tryz.prog (xMZ.at pin) (x.E.fn nt pin (lsOf ls) (xME lp)) (xMl fn k))(lv lo:List Nat)(cv:List (Nat×Nat×TypeId))(pv:Pat (List AV) β)(pb:Pat (List Box) γ)(F:β->γ->(σ->Option (σ⊕ρ))×σ×(ρ->LR))(d:ρ)
 (G:β->γ->σ->(β×γ)×((σ->Option RT)->(ρ->Option RT)->Option RT))
 (hx:LX x.E nt pin ls lp (xMl fn k) lv lo cv pv pb F G:=by intro b c s;kernel_rfl)
 (he:LE pv pb F G:=by intro b c s;repeat' first|apply eB|exact eN|exact eS rfl)
 (hM:∀b c,(G b c (F b c).2.1).1=(b,c):=by exact λ _ _=>rfl) (ho:∀b c r,((F b c).2.2 r).okB:=by exact λ _ _ _=>rfl):LO pin nt (xMl fn k):=⟨lpO lv lo cv pv pb F d,lpC x.ok nt pin ls lp hl G hx he hM ho⟩
def lks{ls:List Code}(hl:∀l,l∈ls->∀lp,E.lp (xMv l)=some lp->LoopOk Tryz.prog Inv E.nt l lp)(h:xMB c=ls:=by kernel_rfl)(hc:((xMw c).all λ d=>(E.lp (condId d)).isNone):=by kernel_rfl):LoOk Tryz.prog Inv E c:=xnz h hl hc
end
end
end Go.Sim
end
noncomputable section
namespace Go.Sim
def sUF:(∀{σ ρ:Type}(s:σ),(inL s:Option (σ⊕ρ))=some (.inl s))/\(∀{σ ρ:Type}(p:ρ),(inR p:Option (σ⊕ρ))=some (.inr p))/\(∀(l:List AV)(i:Int),ixI l i=(decide ((0:Int)<=i)&&decide (i<(↑l.length:Int))))/\(∀(l:List AV)(i:Int)(s:Sh)(k:Nat),ixS l i s k=(decide (i.toNat<l.length)&&xMf s ((l.getD i.toNat .top).cells.getD k .top)))/\(∀(l:List AV)(i:Int)(n:Nat)(ss:List Sh)(k:Nat),ixT l i n ss k=(decide (i.toNat<l.length)&&((l.getD i.toNat .top).cells.length==n&&xMm ss (l.getD i.toNat .top).cells k)))/\(∀(l:List AV)(i:Int)(k:Nat),gC l i k=(l.getD i.toNat .top).cells.getD k .top)/\(∀(n:Nat)(l:List AV)(c z:Nat),rmB n l c z=(n==l.length&&(decide ((n+c)*z<=140737488355328)&&decide (n+c<=4611686018427387904)))):=⟨λ _=>rfl,λ _=>rfl,λ _ _=>rfl,λ _ _ _ _=>rfl,λ _ _ _ _ _=>rfl,λ _ _ _=>rfl,λ _ _ _ _=>rfl⟩
def sBU:((∀{α β:Type}{l:List α}(f:α->β),(l.map f).length=l.length)/\(∀{T:Type}{a b:T},br true a b=a)/\(∀{T:Type}{a b:T},br false a b=b)/\(∀(h:Decidable True),@decide True h)/\(∀(h:Decidable False),@decide False h=false)/\(∀b:Bool,(b&&true)=b)/\(∀b:Bool,(true&&b)=b)/\((!true)=false)/\((!false))/\(∀n:Nat,(n:Int).toNat=n)/\(∀n:Nat,(0:Int)<=(n:Int))/\(∀{α:Type}{a:α},(some a).isSome)/\(∀{α:Type}{a b:α},(some a).getD b=a)/\(∀{α:Type}[BEq α][ReflBEq α](a:α),(a==a))/\(∀n:Nat,0+n=n)/\(∀n:Nat,n - 0=n))/\(∀{σ ρ:Type}(s:σ),(inL s:Option (σ⊕ρ))=some (.inl s))/\(∀{σ ρ:Type}(p:ρ),(inR p:Option (σ⊕ρ))=some (.inr p))/\(∀(l:List AV)(i:Int),ixI l i=(decide ((0:Int)<=i)&&decide (i<(↑l.length:Int))))/\(∀(l:List AV)(i:Int)(s:Sh)(k:Nat),ixS l i s k=(decide (i.toNat<l.length)&&xMf s ((l.getD i.toNat .top).cells.getD k .top)))/\(∀(l:List AV)(i:Int)(n:Nat)(ss:List Sh)(k:Nat),ixT l i n ss k=(decide (i.toNat<l.length)&&((l.getD i.toNat .top).cells.length==n&&xMm ss (l.getD i.toNat .top).cells k)))/\(∀(l:List AV)(i:Int)(k:Nat),gC l i k=(l.getD i.toNat .top).cells.getD k .top)/\(∀(n:Nat)(l:List AV)(c z:Nat),rmB n l c z=(n==l.length&&(decide ((n+c)*z<=140737488355328)&&decide (n+c<=4611686018427387904)))):=⟨⟨za,rfl,rfl,λ h=>by simp,λ h=>by simp,zS,Bool.true_and,rfl,rfl,zN,Int.natCast_nonneg,rfl,rfl,λ a=>beq_self_eq_true a,zH,Nat.sub_zero⟩,sUF⟩
def sOO:(∀{α:Type}{l:List α},l.drop 0=l)/\(∀{α:Type}{l:List α}{i:Nat},l.length<=i->l.take i=l)/\(∀n:Nat,0+n=n)/\(∀{α β:Type}{l:List α}(f:α->β),(l.map f).length=l.length)/\(∀n:Nat,n<=n)/\(∀(h:Decidable True),@decide True h)/\(∀b:Bool,(b&&true)=b)/\(∀{T:Type}{a b:T},br true a b=a)/\(∀{α:Type}{a:α},(some a).isSome)/\(∀{α:Type}{a b:α},(some a).getD b=a):=⟨zr,zi,zH,za,zd,λ h=>by simp,zS,rfl,rfl,rfl⟩
end Go.Sim
noncomputable def Go.Sim.M.xJ8:Go.Sim.EO:=Go.Sim.EO.mk Go.Sim.M.E0 Go.Sim.M.xJ9
end
noncomputable section
set_option maxRecDepth 100000
namespace Go.Sim.M
open Go.IntKind (i64 u64 u8)
open Go.RowKit Go.Proofs
def xcd{T:Type}(a:List UInt8)(δ:T)(κ:Int×Nat×LA->T):T:=br (decide ((byteAVs a).length*1<=140737488355328)&&decide ((byteAVs a).length<=4611686018427387904)) (κ ((↑a.length:Int),(byteAVs a).length,byteAVs a)) δ
def xar(a:List UInt8):=xcd a none some
def xKb:EO:=xJ8.fM Tryz.func94 19 1 [] [] lk0 (u2 (sEq (xNc 0 0 0 0)) (sEq pStr)) (q1 (qB 0 2 111 (q1 (xNd (q2 pNilptr pNils))))) (λ(_,a,_) (((_,_,_),_),_) _=>xcd a) (λ _ _ p=>(AV.tuple [AV.int .i64 p.1,.top],([⟨0,2,111,[AV.agg [AV.own 0 0 0 0,AV.osl 1 0 0 p.2.1]],false,false⟩,bF 0 1 5 p.2.2]:List Box))) (0,0,[])
def xdv{T:Type}(a:List UInt8)(n:Nat)(b:LA)(δ:T)(κ:Int×Nat×LA->T):T:=br (n==b.length&&(decide ((n+(byteAVs a).length)*1<=140737488355328)&&decide (n+(byteAVs a).length<=4611686018427387904))) (κ ((↑a.length:Int),n+(byteAVs a).length,b++byteAVs a)) δ
def xap(a:List UInt8)(n:Nat)(b:LA):=xdv a n b none some
def xKc:EO:=xKb.fM Tryz.func94 19 2 [] [] lk0 (u2 (sEq (xNc 0 0 0 0)) (sEq pStr)) (q2 (xNe 0 2 111 false false (q1 (xNd (q2 (xNc 0 0 0 0) (xNb 1 0 0))))) (qB 0 1 5 xM3)) (λ(_,a,_) (((_,n,_),_),b,_) _=>xdv a n b) (λ _ _ p=>(AV.tuple [AV.int .i64 p.1,.top],([⟨0,2,111,[AV.agg [AV.own 0 0 0 0,AV.osl 1 1 0 p.2.1]],false,false⟩,bF 1 1 5 p.2.2]:List Box))) (0,0,[])
def xlW{T:Type}(a:List UInt8)(n:Nat)(b:LA)(δ:T)(κ:Int×Nat×LA->T):T:=br (n==b.length&&(decide ((n+(byteAVs a).length)*1<=140737488355328)&&decide (n+(byteAVs a).length<=4611686018427387904))) (κ ((↑a.length:Int),n+(byteAVs a).length,b++byteAVs a)) δ
def xCg:EO:=xKc.fM Tryz.func94 19 2 [] [] lk0 (u2 (sEq (xNc 0 0 0 0)) (sEq pStr)) (q2 (xNe 0 2 111 false false (q1 (xNd (q2 (xNc 0 0 0 0) (xNb 1 1 0))))) (qB 1 1 5 xM3)) (λ(_,a,_) (((_,n,_),_),b,_) _=>xlW a n b) (λ _ _ p=>(AV.tuple [AV.int .i64 p.1,.top],([⟨0,2,111,[AV.agg [AV.own 0 0 0 0,AV.osl 1 2 0 p.2.1]],false,false⟩,bF 2 1 5 p.2.2]:List Box))) (0,0,[])
def xaX:Env:=xCg.E.fn 17 1 (lsOf []) (xME [])
def xlk:xMh P0 (xMZ.at 1) xaX:=xCg.ok.fn
def xkS:LoOk P0 (xMZ.at xaX.pin) xaX (Tryz.f96.body.getD .skip):=xfw (by kernel_rfl)
def xe5(c:Int):Int:=((c))
def xgw(c:Int):Bool:=true
def xhv{T:Type}(c:Int)(δ:T)(κ:Int->T):T:=κ (c)
def xnp(c:Int):Pre (xgw c) (XFM P0 xaX Tryz.f96 (Tryz.f96.body.getD .skip) [AV.own (0:Id) 0 0 0,AV.int .u8 c] [{ver:=0,sz:=2,ty:=(111:TypeId),xs:=[AV.agg [AV.nilptr,AV.nils]],frz:=false,pm:=true}]) ((.top,([⟨0,2,111,[AV.agg [AV.own 0 0 0 0,AV.osl 1 0 0 1]],false,false⟩,⟨0,1,5,[AV.int .u8 (xe5 c)],false,true⟩]:List Box))):=by(have h:XFM P0 xaX Tryz.f96 (Tryz.f96.body.getD .skip) [AV.own (0:Id) 0 0 0,AV.int .u8 c] [{ver:=0,sz:=2,ty:=(111:TypeId),xs:=[AV.agg [AV.nilptr,AV.nils]],frz:=false,pm:=true}]=xhv c none (λ(p:Int)=>some (((.top,([⟨0,2,111,[AV.agg [AV.own 0 0 0 0,AV.osl 1 0 0 1]],false,false⟩,⟨0,1,5,[AV.int .u8 p],false,true⟩]:List Box))):(AV×List Box))):=by kernel_rfl);rw[h];unfold xe5 xgw xhv;repeat' (first|exact Pre.none|exact Pre.tt rfl|exact Pre.some rfl|refine Pre.l ?_|refine Pre.r ?_|refine Pre.br (f:=λ(p:Int)=>(((.top,([⟨0,2,111,[AV.agg [AV.own 0 0 0 0,AV.osl 1 0 0 1]],false,false⟩,⟨0,1,5,[AV.int .u8 p],false,true⟩]:List Box))):(AV×List Box))) ?_ ?_|refine Pre.brt (f:=λ(p:Int)=>(((.top,([⟨0,2,111,[AV.agg [AV.own 0 0 0 0,AV.osl 1 0 0 1]],false,false⟩,⟨0,1,5,[AV.int .u8 p],false,true⟩]:List Box))):(AV×List Box))) ?_ ?_)
def xno:LA->List Box->Option (Bool×AV×List Box):=omOf (xM0 (sEq (xNc 0 0 0 0)) (xM0 (sEq (pInt .u8)) xM2)) (xMx (xNe 0 2 (111:TypeId) false true (xMx (xNd (xMx pNilptr (xMx pNils xM1))) xM1)) xM1) λ(_,(c,_)) (((_,(_,_)),_),_)=>(true,((.top,([⟨0,2,111,[AV.agg [AV.own 0 0 0 0,AV.osl 1 0 0 1]],false,false⟩,⟨0,1,5,[AV.int .u8 (xe5 c)],false,true⟩]:List Box))))
def xnn:OmOk P0 xMZ 96 (xno):=xkF λ b d h f e=>by obtain⟨_,⟨c,_⟩⟩:=b;obtain⟨⟨⟨_,⟨_,_⟩⟩,_⟩,_⟩:=d;obtain⟨g,a⟩:=Prod.mk.inj e;refine xl3 (p:=xaX.pin) (xl2 xMq (xMr P0 _) rfl xlk rfl Tryz.func96 rfl (by kernel_rfl) xkS ((Pre.get (xnp _) rfl).trans ?_));exact congrArg some a
def xKd:EO:=xCg.wM xnn
def xhl{T:Type}(c:Int)(n:Nat)(a:LA)(δ:T)(κ:Nat×LA->T):T:=br (rmB n a 1 1) (κ (n+1,a++[AV.int .u8 c])) δ
def xdc(c:Int)(n:Nat)(a:LA):=xhl c n a none some
def xKe:EO:=xKd.fM Tryz.func96 17 2 [] [] lk0 (u2 (sEq (xNc 0 0 0 0)) (sEq (pInt .u8))) (q2 (xNe 0 2 111 false false (q1 (xNd (q2 (xNc 0 0 0 0) (xNb 1 0 0))))) (qB 0 1 5 xM3)) (λ(_,c,_) (((_,n,_),_),a,_) _=>xhl c n a) (λ _ _ p=>(.top,([⟨0,2,111,[AV.agg [AV.own 0 0 0 0,AV.osl 1 1 0 p.1]],false,false⟩,bF 1 1 5 p.2]:List Box))) (0,[])
def xd8{T:Type}(c:Int)(n:Nat)(a:LA)(δ:T)(κ:Nat×LA->T):T:=br (rmB n a 1 1) (κ (n+1,a++[AV.int .u8 c])) δ
def xdd(c:Int)(n:Nat)(a:LA):=xd8 c n a none some
def xKf:EO:=xKe.fM Tryz.func96 17 2 [] [] lk0 (u2 (sEq (xNc 0 0 0 0)) (sEq (pInt .u8))) (q2 (xNe 0 2 111 false false (q1 (xNd (q2 (xNc 0 0 0 0) (xNb 1 1 0))))) (qB 1 1 5 xM3)) (λ(_,c,_) (((_,n,_),_),a,_) _=>xd8 c n a) (λ _ _ p=>(.top,([⟨0,2,111,[AV.agg [AV.own 0 0 0 0,AV.osl 1 2 0 p.1]],false,false⟩,bF 2 1 5 p.2]:List Box))) (0,[])
def xgh(a b:Int):Bool:=(br (decide (a>=0)) (br (decide (a<b)) ((decide (b<=1099511627776))) ((false))) ((false)))
def xwq{T:Type}(a b:Int)(δ:T)(κ:Bool->T):T:=br (decide (a>=0)) (br (decide (a<b)) (κ (decide (b<=1099511627776))) (κ (false))) (κ (false))
def xCh:EO:=xKf.fT Tryz.func111 18 0 [] [] lk0 (λ((a,b,_),_)=>xwq a b none) (u1 (xNg (u2 uI uI))) (λ((a,b,_),_)=>xgh a b) (λ _ p=>(AV.bool p))
def xeT(b:Int)(a:LA):=((a.getD (0+b.toNat) .top).cells.getD 0 .top).toInt
def xjL(d:Int)(c:Nat)(b a:LA):=((xap (Lib.itoa (xeT d b)) c a).getD (0,0,[])).snd
def xjK(d:Int)(c:Nat)(b a:LA):=xdd 32 (xjL d c b a).fst (xjL d c b a).snd
def xjJ(d:Int)(c:Nat)(b a:LA):=(xjK d c b a).getD (0,[])
def xhy{T:Type}(k:LA)(l j:Int)(e:Nat)(i c:Int)(d:Nat)(f g:Int)(h:List UInt8)(a b:LA)(δ:T)(κl:(Int×Nat×Int×Int×List UInt8×LA×LA)->T)(κr:(Nat×Int×Int×List UInt8×LA)->T):T:=br (decide (c<i)) (br (decide (0<=c)&&decide (c<(↑e:Int))) (br (decide (0+c.toNat<a.length)&&xMf (Sh.int .i64) ((a.getD (0+c.toNat) .top).cells.getD 0 .top)) (br (decide ((-9223372036854775808)<=xeT c a)&&decide (xeT c a<=9223372036854775807)) (br ((xap (Lib.itoa (xeT c a)) d b).isSome) (br ((xjK c d a b).isSome) (κl (i64.wrap (c+1),(xjJ c d a b).fst,f,g,h,a,(xjJ c d a b).snd)) δ) δ) δ) δ) δ) (κr (d,f,g,h,b))
def xa4(k:LA)(l e:Int)(c:Nat)(f:Int):StT (Int×Nat×Int×Int×List UInt8×LA×LA) (Nat×Int×Int×List UInt8×LA):=λ(g,d,h,i,j,b,a)=>xhy k l e c f g d h i j b a none inL inR
def xgI:=xCh.l 37 0 [] [] Tryz.f141 1 lk0 [3,5,8,9,10,21,22,23] [3,5,8,9,10] [] (q8 (xNc 0 0 0 0) (xNc 1 0 0 0) (qL 3) qI qI (xNb 2 0 0) qI qI) (q4 (xNe 0 2 111 false false (q1 (xNd (q2 (xNc 0 0 0 0) (xNb 3 0 0))))) (qB 0 3 87 (q1 (xNd (q3 qI qI pStr)))) (qB 0 1 3 xM3) (qB 0 1 5 xM3)) (λ(_,_,k,m,e,c,f,g,_) (((_,d,_),_),((h,i,j,_),_),b,a,_)=>(xa4 k m e c f,(g,d,h,i,j,b,a),λ p=>(.leaf (.exit 2) [AV.own 0 0 0 0,AV.own 1 0 0 0,AV.list 3 k,AV.int .i64 m,AV.int .i64 e] [⟨0,2,111,[AV.agg [AV.own 0 0 0 0,AV.osl 2 0 0 p.1]],false,false⟩,bF 0 3 87 [AV.agg [AV.int .i64 p.2.1,AV.int .i64 p.2.2.1,AV.str p.2.2.2.1]],bF 0 1 5 p.2.2.2.2]))) (0,0,0,[],[]) λ(_,_,k,m,e,c,f,_,_) _ (g,d,h,i,j,b,a)=>((((),(),k,m,e,c,f,g,()),((((),d,()),()),((h,i,j,()),()),b,a,())),xhy k m e c f g d h i j b a none)
def xjI(b:LA)(e a:Int)(d:Nat)(c:LA):=Iter (xa4 b e a 3 3) (0,d,(gC b a 0).toInt,(gC b a 1).toInt,(gC b a 2).toStr,[AV.int .i64 (gC b a 0).toInt,AV.int .i64 (gC b a 1).toInt,AV.int .i64 (↑(gC b a 2).toStr.length:Int)],c)
def xgH(d:LA)(e c:Int)(b:Nat)(a:LA):=(xjI d e c b a).getD (0,0,0,[],[])
def xjH(d:LA)(e c:Int)(b:Nat)(a:LA):=xap ((xgH d e c b a).snd.snd.snd).fst (xgH d e c b a).fst ((xgH d e c b a).snd.snd.snd).snd
def xjG(d:LA)(e c:Int)(b:Nat)(a:LA):=((xjH d e c b a).getD (0,0,[])).snd
def xhw{T:Type}(d:LA)(e b:Int)(c:Nat)(a:LA)(δ:T)(κl:(Int×Nat×LA)->T)(κr:(Nat×LA)->T):T:=br (decide (b<e)) (br (ixI d b) (br (ixT d b 3 [Sh.int .i64,Sh.int .i64,Sh.str] 0) (br ((xjI d e b c a).isSome) (br ((xjH d e b c a).isSome) (κl (i64.wrap (b+1),(xjG d e b c a).fst,(xjG d e b c a).snd)) δ) δ) δ) δ) (κr (c,a))
def xcS(d:LA)(e:Int):StT (Int×Nat×LA) (Nat×LA):=λ(c,b,a)=>xhw d e c b a none inL inR
def xoe:=xCh.l 37 0 [] [(6,xgI.lp)] Tryz.f141 0 (lk1 xgI.ok) [3,8,9,10] [3] [] (q4 (xNc 0 0 0 0) (qL 3) qI qI) (q2 (xNe 0 2 111 false false (q1 (xNd (q2 (xNc 0 0 0 0) (xNb 1 0 0))))) (qB 0 1 5 xM3)) (λ(_,d,e,c,_) (((_,b,_),_),a,_)=>(xcS d e,(c,b,a),λ p=>(.leaf (.exit 0) [AV.own 0 0 0 0] [⟨0,2,111,[AV.agg [AV.own 0 0 0 0,AV.osl 1 0 0 p.1]],false,false⟩,bF 0 1 5 p.2]))) (0,[]) λ(_,d,e,_,_) _ (c,b,a)=>((((),d,e,c,()),((((),b,()),()),a,())),xhw d e c b a none)
def xcC(a:LA):=((a.getD 0 .top).cells.getD 0 .top).toInt
def xmv(a:LA):=xdc 32 ((xar (Lib.itoa (xcC a))).getD (0,0,[])).snd.fst ((xar (Lib.itoa (xcC a))).getD (0,0,[])).snd.snd
def xmu(a:LA):=(xmv a).getD (0,[])
def xmt(a:LA):=Iter (xa4 a (↑a.length:Int) 0 3 3) (1,(xmu a).fst,xcC a,((a.getD 0 .top).cells.getD 1 .top).toInt,((a.getD 0 .top).cells.getD 2 .top).toStr,[AV.int .i64 (xcC a),AV.int .i64 ((a.getD 0 .top).cells.getD 1 .top).toInt,AV.int .i64 (↑((a.getD 0 .top).cells.getD 2 .top).toStr.length:Int)],(xmu a).snd)
def xiU(a:LA):=(xmt a).getD (0,0,0,[],[])
def xms(a:LA):=xap ((xiU a).snd.snd.snd).fst (xiU a).fst ((xiU a).snd.snd.snd).snd
def xmr(a:LA):=((xms a).getD (0,0,[])).snd
def xmq(a:LA):=Iter (xcS a (↑a.length:Int)) (1,(xmr a).fst,(xmr a).snd)
def xfd(a:LA):=(xmq a).getD (0,[])
def xnv{T:Type}(a:LA)(δ:T)(κ:List UInt8->T):T:=br (decide (0<(↑a.length:Int))) (br (decide (0<(↑a.length:Int))) (br (decide (0<a.length)&&((a.getD 0 .top).cells.length==3&&xMm [Sh.int .i64,Sh.int .i64,Sh.str] (a.getD 0 .top).cells 0)) (br (decide ((-9223372036854775808)<=xcC a)&&decide (xcC a<=9223372036854775807)) (br ((xar (Lib.itoa (xcC a))).isSome) (br ((xmv a).isSome) (br ((xmt a).isSome) (br ((xms a).isSome) (br ((xmq a).isSome) (br (decide ((xfd a).fst=((xfd a).snd).length)&&isBytes ((xfd a).snd)&&decide (((xfd a).snd).length≠0)) (κ (strOf ((xfd a).snd))) δ) δ) δ) δ) δ) δ) δ) δ) δ) (κ ([]))
def xjF(a:LA):=xnv a none some
def xCi:EO:=xCh.f Tryz.func141 37 0 [] [(6,xgI.lp),(3,xoe.lp)] (lks (lkC xoe.ok (lkC xgI.ok lkN))) (u1 (uL 3)) (λ(a,_) _=>xnv a) (λ _ p=>AV.str p) []
def xg9(b:Int)(a:LA):=((a.getD (0+b.toNat) .top).cells.getD 0 .top).toInt
def xm9(d:Int)(c:Nat)(b a:LA):=((xap (Lib.itoa (xg9 d b)) c a).getD (0,0,[])).snd
def xm8(d:Int)(c:Nat)(b a:LA):=xdd 32 (xm9 d c b a).fst (xm9 d c b a).snd
def xm7(d:Int)(c:Nat)(b a:LA):=(xm8 d c b a).getD (0,[])
def xkP{T:Type}(k:LA)(l j:Int)(e:Nat)(i c:Int)(d:Nat)(f g:Int)(h:List UInt8)(a b:LA)(δ:T)(κl:(Int×Nat×Int×Int×List UInt8×LA×LA)->T)(κr:(Nat×Int×Int×List UInt8×LA)->T):T:=br (decide (c<i)) (br (decide (0<=c)&&decide (c<(↑e:Int))) (br (decide (0+c.toNat<a.length)&&xMf (Sh.int .i64) ((a.getD (0+c.toNat) .top).cells.getD 0 .top)) (br (decide ((-9223372036854775808)<=xg9 c a)&&decide (xg9 c a<=9223372036854775807)) (br ((xap (Lib.itoa (xg9 c a)) d b).isSome) (br ((xm8 c d a b).isSome) (κl (i64.wrap (c+1),(xm7 c d a b).fst,f,g,h,a,(xm7 c d a b).snd)) δ) δ) δ) δ) δ) (κr (d,f,g,h,b))
def xbH(k:LA)(l e:Int)(c:Nat)(f:Int):StT (Int×Nat×Int×Int×List UInt8×LA×LA) (Nat×Int×Int×List UInt8×LA):=λ(g,d,h,i,j,b,a)=>xkP k l e c f g d h i j b a none inL inR
def xjq:=xCi.l 37 0 [] [] Tryz.f62 1 lk0 [3,5,8,9,10,21,22,23] [3,5,8,9,10] [] (q8 (xNc 0 0 0 0) (xNc 1 0 0 0) (qL 3) qI qI (xNb 2 0 0) qI qI) (q4 (xNe 0 2 111 false false (q1 (xNd (q2 (xNc 0 0 0 0) (xNb 3 0 0))))) (qB 0 3 87 (q1 (xNd (q3 qI qI pStr)))) (qB 0 1 3 xM3) (qB 0 1 5 xM3)) (λ(_,_,k,m,e,c,f,g,_) (((_,d,_),_),((h,i,j,_),_),b,a,_)=>(xbH k m e c f,(g,d,h,i,j,b,a),λ p=>(.leaf (.exit 2) [AV.own 0 0 0 0,AV.own 1 0 0 0,AV.list 3 k,AV.int .i64 m,AV.int .i64 e] [⟨0,2,111,[AV.agg [AV.own 0 0 0 0,AV.osl 2 0 0 p.1]],false,false⟩,bF 0 3 87 [AV.agg [AV.int .i64 p.2.1,AV.int .i64 p.2.2.1,AV.str p.2.2.2.1]],bF 0 1 5 p.2.2.2.2]))) (0,0,0,[],[]) λ(_,_,k,m,e,c,f,_,_) _ (g,d,h,i,j,b,a)=>((((),(),k,m,e,c,f,g,()),((((),d,()),()),((h,i,j,()),()),b,a,())),xkP k m e c f g d h i j b a none)
def xm6(b:LA)(e a:Int)(d:Nat)(c:LA):=Iter (xbH b e a 3 3) (0,d,(gC b a 0).toInt,(gC b a 1).toInt,(gC b a 2).toStr,[AV.int .i64 (gC b a 0).toInt,AV.int .i64 (gC b a 1).toInt,AV.int .i64 (↑(gC b a 2).toStr.length:Int)],c)
def xjp(d:LA)(e c:Int)(b:Nat)(a:LA):=(xm6 d e c b a).getD (0,0,0,[],[])
def xm5(d:LA)(e c:Int)(b:Nat)(a:LA):=xap ((xjp d e c b a).snd.snd.snd).fst (xjp d e c b a).fst ((xjp d e c b a).snd.snd.snd).snd
def xm4(d:LA)(e c:Int)(b:Nat)(a:LA):=((xm5 d e c b a).getD (0,0,[])).snd
def xkO{T:Type}(d:LA)(e b:Int)(c:Nat)(a:LA)(δ:T)(κl:(Int×Nat×LA)->T)(κr:(Nat×LA)->T):T:=br (decide (b<e)) (br (ixI d b) (br (ixT d b 3 [Sh.int .i64,Sh.int .i64,Sh.str] 0) (br ((xm6 d e b c a).isSome) (br ((xm5 d e b c a).isSome) (κl (i64.wrap (b+1),(xm4 d e b c a).fst,(xm4 d e b c a).snd)) δ) δ) δ) δ) (κr (c,a))
def xed(d:LA)(e:Int):StT (Int×Nat×LA) (Nat×LA):=λ(c,b,a)=>xkO d e c b a none inL inR
def xqC:=xCi.l 37 0 [] [(6,xjq.lp)] Tryz.f62 0 (lk1 xjq.ok) [3,8,9,10] [3] [] (q4 (xNc 0 0 0 0) (qL 3) qI qI) (q2 (xNe 0 2 111 false false (q1 (xNd (q2 (xNc 0 0 0 0) (xNb 1 0 0))))) (qB 0 1 5 xM3)) (λ(_,d,e,c,_) (((_,b,_),_),a,_)=>(xed d e,(c,b,a),λ p=>(.leaf (.exit 0) [AV.own 0 0 0 0] [⟨0,2,111,[AV.agg [AV.own 0 0 0 0,AV.osl 1 0 0 p.1]],false,false⟩,bF 0 1 5 p.2]))) (0,[]) λ(_,d,e,_,_) _ (c,b,a)=>((((),d,e,c,()),((((),b,()),()),a,())),xkO d e c b a none)
def xej(a:LA):=((a.getD 0 .top).cells.getD 0 .top).toInt
def xqc(a:LA):=xdc 32 ((xar (Lib.itoa (xej a))).getD (0,0,[])).snd.fst ((xar (Lib.itoa (xej a))).getD (0,0,[])).snd.snd
def xqb(a:LA):=(xqc a).getD (0,[])
def xqa(a:LA):=Iter (xbH a (↑a.length:Int) 0 3 3) (1,(xqb a).fst,xej a,((a.getD 0 .top).cells.getD 1 .top).toInt,((a.getD 0 .top).cells.getD 2 .top).toStr,[AV.int .i64 (xej a),AV.int .i64 ((a.getD 0 .top).cells.getD 1 .top).toInt,AV.int .i64 (↑((a.getD 0 .top).cells.getD 2 .top).toStr.length:Int)],(xqb a).snd)
def xna(a:LA):=(xqa a).getD (0,0,0,[],[])
def xp9(a:LA):=xap ((xna a).snd.snd.snd).fst (xna a).fst ((xna a).snd.snd.snd).snd
def xp8(a:LA):=((xp9 a).getD (0,0,[])).snd
def xp7(a:LA):=Iter (xed a (↑a.length:Int)) (1,(xp8 a).fst,(xp8 a).snd)
def xh9(a:LA):=(xp7 a).getD (0,[])
def xq1{T:Type}(a:LA)(δ:T)(κ:List UInt8->T):T:=br (decide (0<(↑a.length:Int))) (br (decide (0<(↑a.length:Int))) (br (decide (0<a.length)&&((a.getD 0 .top).cells.length==3&&xMm [Sh.int .i64,Sh.int .i64,Sh.str] (a.getD 0 .top).cells 0)) (br (decide ((-9223372036854775808)<=xej a)&&decide (xej a<=9223372036854775807)) (br ((xar (Lib.itoa (xej a))).isSome) (br ((xqc a).isSome) (br ((xqa a).isSome) (br ((xp9 a).isSome) (br ((xp7 a).isSome) (br (decide ((xh9 a).fst=((xh9 a).snd).length)&&isBytes ((xh9 a).snd)&&decide (((xh9 a).snd).length≠0)) (κ (strOf ((xh9 a).snd))) δ) δ) δ) δ) δ) δ) δ) δ) δ) (κ ([]))
def xau(a:LA):=xq1 a none some
def xuP:EO:=xCi.f Tryz.func62 37 0 [] [(6,xjq.lp),(3,xqC.lp)] (lks (lkC xqC.ok (lkC xjq.ok lkN))) (u1 (uL 3)) (λ(a,_) _=>xq1 a) (λ _ p=>AV.str p) []
def xf1(x:Int):Bool:=((x !=x))
def xAJ{T:Type}(x:Int)(δ:T)(κ:Bool->T):T:=κ (x !=x)
def xKg:EO:=xuP.fT Tryz.func138 6 0 [] [] lk0 (λ(x,_)=>xAJ x none) (u1 uI) (λ(x,_)=>xf1 x) (λ _ p=>(AV.bool p))
def xcO(x y:Int):Int:=(br (xf1 x) (br (xf1 y) ((0)) (((-1)))) (br (xf1 y) ((1)) (br (decide (x<y)) (((-1))) (br (decide (x>y)) ((1)) ((0))))))
def xyC{T:Type}(x y:Int)(δ:T)(κ:Int->T):T:=br (xf1 x) (br (xf1 y) (κ (0)) (κ ((-1)))) (br (xf1 y) (κ (1)) (br (decide (x<y)) (κ ((-1))) (br (decide (x>y)) (κ (1)) (κ (0)))))
def xCj:EO:=xKg.fT Tryz.func110 20 0 [] [] lk0 (λ(x,y,_)=>xyC x y none) (u2 uI uI) (λ(x,y,_)=>xcO x y) (λ _ p=>(AV.int .i64 p))
def xjB:Env:=xCj.E.fn 18 0 (lsOf []) (xME [])
def xzg:xMh P0 (xMZ.at 0) xjB:=xCj.ok.fn
def xu2:LoOk P0 (xMZ.at xjB.pin) xjB (Tryz.f109.body.getD .skip):=xnz (ls:=[xMl Tryz.f109 0]) (by kernel_rfl) (fun l a lp b=>by
 simp only[zC,List.not_mem_nil,or_false]at a;rcases a with rfl
 . rw[show xjB.lp (xMv (xMl Tryz.f109 0))=none by kernel_rfl]at b
   simp at b)
def xpF(a b c:Int):Int:=(br (a !=0) ((a)) (br (b !=0) ((b)) (br (c !=0) ((c)) ((0)))))
def xu3(a b c:Int):Bool:=true
def xzh{T:Type}(a b c:Int)(δ:T)(κ:Int->T):T:=br (a !=0) (κ (a)) (br (b !=0) (κ (b)) (br (c !=0) (κ (c)) (κ (0))))
def xFU(a b c:Int):Pre (xu3 a b c) (XF P0 xjB Tryz.f109 (Tryz.f109.body.getD .skip) [AV.list 1 [AV.int .i64 a,AV.int .i64 b,AV.int .i64 c]]) (AV.int .i64 (xpF a b c)):=by(have h:XF P0 xjB Tryz.f109 (Tryz.f109.body.getD .skip) [AV.list 1 [AV.int .i64 a,AV.int .i64 b,AV.int .i64 c]]=xzh a b c none (λ(p:Int)=>some ((AV.int .i64 p):AV)):=by kernel_rfl);rw[h];unfold xpF xu3 xzh;repeat' (first|exact Pre.none|exact Pre.tt rfl|exact Pre.some rfl|refine Pre.l ?_|refine Pre.r ?_|refine Pre.br (f:=λ(p:Int)=>((AV.int .i64 p):AV)) ?_ ?_|refine Pre.brt (f:=λ(p:Int)=>((AV.int .i64 p):AV)) ?_ ?_)
def xFT:LA->Option (Bool×AV):=ocOf (xM0 (xNf 1 (xMx (pInt .i64) (xMx (pInt .i64) (xMx (pInt .i64) xM1)))) xM2) λ((a,(b,(c,_))),_)=>(true,(AV.int .i64 (xpF a b c)))
def xFS:OcOk P0 xMZ 109 (xFT):=xkE λ e h f=>by obtain⟨⟨a,⟨b,⟨c,_⟩⟩⟩,_⟩:=e;obtain⟨g,d⟩:=Prod.mk.inj f;refine xlF (p:=xjB.pin) (xpv xMq (xMr P0 _) rfl xzg Tryz.func109 rfl (by kernel_rfl) xu2 ((Pre.get (xFU _ _ _) rfl).trans ?_));exact congrArg some d
def xKh:EO:=xCj.w xFS
def xba(a b:Int)(c:List UInt8)(d e:Int)(f:List UInt8):Int:=((xpF (xcO a d) (xcO b e) (Lib.compareBytes c f)))
def xv0{T:Type}(a b:Int)(c:List UInt8)(d e:Int)(f:List UInt8)(δ:T)(κ:Int->T):T:=κ (xpF (xcO a d) (xcO b e) (Lib.compareBytes c f))
def xGX:EO:=xKh.fT Tryz.func173 22 0 [] [] lk0 (λ((a,b,c,_),(d,e,f,_),_)=>xv0 a b c d e f none) (u2 (xNg (u3 uI uI (sEq pStr))) (xNg (u3 uI uI (sEq pStr)))) (λ((a,b,c,_),(d,e,f,_),_)=>xba a b c d e f) (λ _ p=>(AV.int .i64 p))
def xbP(c b:LA)(a:Int):=xba (gC b a 0).toInt (gC b a 1).toInt (gC b a 2).toStr (gC c a 0).toInt (gC c a 1).toInt (gC c a 2).toStr
def xb0{T:Type}(e c b:LA)(d a:Int)(δ:T)(κl:(Int)->T)(κr:(Bool×(Int)×(Unit))->T):T:=br (decide (a<d)) (br (ixI b a) (br (ixT b a 3 [Sh.int .i64,Sh.int .i64,Sh.str] 0) (br (decide (a>=c.length)) (κr (true,(1),())) (br (ixI c a) (br (ixT c a 3 [Sh.int .i64,Sh.int .i64,Sh.str] 0) (br (xbP c b a !=0) (κr (true,(xbP c b a),())) (κl (i64.wrap (a+1)))) δ) δ)) δ) δ) (κr (false,0,()))
def xaE(d e a:LA)(b:Int):StT (Int) (Bool×(Int)×(Unit)):=λ(c)=>xb0 d e a b c none inL inR
def xkf:=xGX.l 39 0 [] [] Tryz.f172 0 lk0 [0,1,2,11,12,13] [0,1,6] [] (q6 (qL 3) (qL 3) (xMF 173 xM1) (qL 3) qI qI) xM1 (λ(d,e,_,a,b,c,_) _=>(xaE d e a b,(c),λ p=>(.node p.1 (.leaf .ret [AV.list 3 d,AV.list 3 e,AV.int .i64 p.2.1] []) (.leaf (.exit 0) [AV.list 3 d,AV.list 3 e,.top] [])))) (false,0,()) λ(d,e,_,a,b,_,_) _ (c)=>(((d,e,(),a,b,c,()),()),xb0 d e a b c none)
def xiA{T:Type}(a b:LA)(δ:T)(κ:Int->T):T:=br ((Iter (xaE a b a (↑a.length:Int)) 0).isSome) (br (((Iter (xaE a b a (↑a.length:Int)) 0).getD (false,0,())).fst) (κ (((Iter (xaE a b a (↑a.length:Int)) 0).getD (false,0,())).snd.fst)) (br (decide ((↑a.length:Int)<(↑b.length:Int))) (κ ((-1))) (κ (0)))) δ
def xke(a b:LA):=xiA a b none some
def xKi:EO:=xGX.f Tryz.func172 39 0 [] [(2,xkf.lp)] (lk1 xkf.ok) (u3 (uL 3) (uL 3) (sEq (xMF (173:FuncId) xM1))) (λ(a,b,_,_) _=>xiA a b) (λ _ p=>AV.int .i64 p) 0
def xnm{T:Type}(a b:LA)(δ:T)(κ:Int->T):T:=br ((xke a b).isSome) (κ ((xke a b).getD 0)) δ
def xlz(a b:LA):=xnm a b none some
def xKj:EO:=xKi.f Tryz.func144 8 0 [] [] lk0 (u2 (uL 3) (uL 3)) (λ(a,b,_) _=>xnm a b) (λ _ p=>AV.int .i64 p) 0
def xlD{T:Type}(a c b d:LA)(δ:T)(κ:Int->T):T:=br ((xlz a b).isSome) (κ ((xlz a b).getD 0)) δ
def xf5(c a d b:LA):=xlD c a d b none some
def xCk:EO:=xKj.f Tryz.func143 10 0 [] [] lk0 (u2 (xNg (u2 (uL 3) (uL 2))) (xNg (u2 (uL 3) (uL 2)))) (λ((c,a,_),(d,b,_),_) _=>xlD c a d b) (λ _ p=>AV.int .i64 p) 0
def xc6(a:Nat)(j:Int):=decide (0<=i64.wrap (j - 1))&&decide (i64.wrap (j - 1)<(↑a:Int))
def xbE(j:Int):Nat:=0+(i64.wrap (j - 1)).toNat
def xc7(a:Nat)(j:Int):=decide (0<=j)&&decide (j<(↑a:Int))
def xfp(j:Int)(a:LA):=decide (0+j.toNat<a.length)
def xfn(j:Int)(a:LA):=xfp j a&&((a.getD (0+j.toNat) .top).cells.length==2&&xMm [Sh.list 3,Sh.list 2] (a.getD (0+j.toNat) .top).cells 0)
def xaI(j:Int)(a:LA):=(a.getD (xbE j) .top).cells
def xfl(j:Int)(a:LA):=decide (xbE j<a.length)&&((xaI j a).length==2&&xMm [Sh.list 3,Sh.list 2] (xaI j a) 0)
def xfm(j:Int)(a:LA):=xf5 ((a.getD (0+j.toNat) .top).cells.getD 0 .top).toList ((a.getD (0+j.toNat) .top).cells.getD 1 .top).toList ((xaI j a).getD 0 .top).toList ((xaI j a).getD 1 .top).toList
def xfo(j:Int)(a:LA):=a.set (0+j.toNat) (AV.agg [AV.list 3 ((xaI j a).getD 0 .top).toList,AV.list 2 ((xaI j a).getD 1 .top).toList])
def xfH{T:Type}(d:Nat)(a b i j:Int)(c:LA)(δ:T)(κl:(Int×LA)->T)(κr:(LA)->T):T:=br (decide (j>a)) (br (xc7 d j) (br (xfn j c) (br (xc6 d j) (br (xfl j c) (br ((xfm j c).isSome) (br (decide ((xfm j c).getD 0<0)) (br (xc6 d j) (br (xfl j c) (br (xc7 d j) (br (xfn j c) (br (xc7 d j) (br (xfp j c) (br (xc6 d j) (br (decide (xbE j<(xfo j c).length)) (κl (i64.wrap (j - 1),(xfo j c).set (xbE j) (AV.agg [AV.list 3 ((c.getD (0+j.toNat) .top).cells.getD 0 .top).toList,AV.list 2 ((c.getD (0+j.toNat) .top).cells.getD 1 .top).toList]))) δ) δ) δ) δ) δ) δ) δ) δ) (κr (c))) δ) δ) δ) δ) δ) (κr (c))
def xbi(d:Nat)(a b i:Int):StT (Int×LA) (LA):=λ(j,c)=>xfH d a b i j c none inL inR
def xbD:=xCk.l 53 1 [148] [] Tryz.f188 1 lk0 [0,1,2,3,8,9] [0,1,2,3,8] [] (q6 (xNb 0 0 0) qI qI (xMF 143 xM1) qI qI) (q1 (qB 0 2 148 xM3)) (λ(c,a,b,_,i,j,_) (d,_)=>(xbi c a b i,(j,d),λ p=>(.leaf (.exit 2) [AV.osl 0 0 0 c,AV.int .i64 a,AV.int .i64 b,AV.func 143 [],AV.int .i64 i] [bF 0 2 148 p]))) [] λ(c,a,b,_,i,_,_) _ (j,d)=>(((c,a,b,(),i,j,()),(d,())),xfH c a b i j d none)
def xfG{T:Type}(d:Nat)(a b i:Int)(c:LA)(δ:T)(κl:(Int×LA)->T)(κr:(LA)->T):T:=br (decide (i<b)) (br ((Iter (xbi d a b i) (i,c)).isSome) (κl (i64.wrap (i+1),(Iter (xbi d a b i) (i,c)).getD [])) δ) (κr (c))
def xbh(d:Nat)(a b:Int):StT (Int×LA) (LA):=λ(i,c)=>xfG d a b i c none inL inR
def xfk:=xCk.l 53 1 [148] [(4,xbD.lp)] Tryz.f188 0 (lk1 xbD.ok) [0,1,2,3,8] [] [] (q5 (xNb 0 0 0) qI qI (xMF 143 xM1) qI) (q1 (qB 0 2 148 xM3)) (λ(d,a,b,_,i,_) (c,_)=>(xbh d a b,(i,c),λ p=>(.leaf (.exit 0) [] [bF 0 2 148 p]))) [] λ(d,a,b,_,_,_) _ (i,c)=>(((d,a,b,(),i,()),(c,())),xfG d a b i c none)
def xdT{T:Type}(n:Nat)(a b:Int)(c:LA)(δ:T)(κ:LA->T):T:=br ((Iter (xbh n a b) (i64.wrap (a+1),c)).isSome) (κ ((Iter (xbh n a b) (i64.wrap (a+1),c)).getD [])) δ
def xa2(n:Nat)(a b:Int)(c:LA):=xdT n a b c none some
def xyS:EO:=xCk.fM Tryz.func188 53 1 [148] [(4,xbD.lp),(1,xfk.lp)] (lks (lkC xfk.ok (lkC xbD.ok lkN))) (u4 (sEq (xNb 0 0 0)) uI uI (sEq (xMF (143:FuncId) xM1))) (q1 (qB 0 2 148 xM3)) (λ(n,a,b,_,_) (c,_) _=>xdT n a b c) (λ _ _ p=>(AV.tuple [],([bF 0 2 148 p]:List Box))) []
def xeW{T:Type}(d:Nat)(n e a b:Int)(c:LA)(δ:T)(κl:(Int×Int×LA)->T)(κr:(Int×LA)->T):T:=br (decide (b<=n)) (br ((xa2 d a b c).isSome) (κl (b,i64.wrap (b+e),(xa2 d a b c).getD [])) δ) (κr (a,c))
def xbw(e:Nat)(n c:Int):StT (Int×Int×LA) (Int×LA):=λ(a,b,d)=>xeW e n c a b d none inL inR
def xc8:=xyS.l 63 1 [148] [] Tryz.f171 0 lk0 [0,1,2,6,7,8] [0,1,2,6,7] [] (q6 (xNb 0 0 0) qI (xMF 143 xM1) qI qI qI) (q1 (qB 0 2 148 xM3)) (λ(d,n,_,c,a,b,_) (e,_)=>(xbw d n c,(a,b,e),λ p=>(.leaf (.exit 0) [AV.osl 0 0 0 d,AV.int .i64 n,AV.func 143 [],AV.int .i64 c,AV.int .i64 p.1] [bF 0 2 148 p.2]))) (0,[]) λ(d,n,_,c,_,_,_) _ (a,b,e)=>(((d,n,(),c,a,b,()),(e,())),xeW d n c a b e none)
def xip{T:Type}(d:Nat)(n e a b:Int)(c:LA)(δ:T)(κl:(Int×Int×LA)->T)(κr:(Int×LA)->T):T:=br (decide (b<=n)) (br (decide (0+d<=c.length)&&true) δ δ) (κr (a,c))
def xha(e:Nat)(n c:Int):StT (Int×Int×LA) (Int×LA):=λ(a,b,d)=>xip e n c a b d none inL inR
def xc9:=xyS.l 63 1 [148] [(2,xc8.lp)] Tryz.f171 2 lk0 [0,1,2,6,7,8] [0,1,2,6,7] [] (q6 (xNb 0 0 0) qI (xMF 143 xM1) qI qI qI) (q1 (qB 0 2 148 xM3)) (λ(d,n,_,c,a,b,_) (e,_)=>(xha d n c,(a,b,e),λ p=>(.leaf (.exit 4) [AV.osl 0 0 0 d,AV.int .i64 n,AV.func 143 [],AV.int .i64 c,AV.int .i64 p.1] [bF 0 2 148 p.2]))) (0,[]) λ(d,n,_,c,_,_,_) _ (a,b,e)=>(((d,n,(),c,a,b,()),(e,())),xip d n c a b e none)
def xib(c:Nat)(n a:Int)(b:LA):=Iter (xha c n a) (0,i64.wrap (2*a),b)
def xeK(c:Nat)(n a:Int)(b:LA):=(xib c n a b).getD (0,[])
def xeX{T:Type}(c:Nat)(n a:Int)(b:LA)(δ:T)(κl:(Int×LA)->T)(κr:(LA)->T):T:=br (decide (a<n)) (br ((xib c n a b).isSome) (br (decide (i64.wrap ((xeK c n a b).fst+a)<n)) (br (decide (0+c<=((xeK c n a b).snd).length)&&true) δ δ) (κl (i64.wrap (a*2),((xeK c n a b).snd)))) δ) (κr (b))
def xcv(c:Nat)(n:Int):StT (Int×LA) (LA):=λ(a,b)=>xeX c n a b none inL inR
def xia:=xyS.l 63 1 [148] [(2,xc8.lp),(9,xc9.lp)] Tryz.f171 1 (lk1 xc9.ok) [0,1,2,6] [] [] (q4 (xNb 0 0 0) qI (xMF 143 xM1) qI) (q1 (qB 0 2 148 xM3)) (λ(c,n,_,a,_) (b,_)=>(xcv c n,(a,b),λ p=>(.leaf (.exit 2) [] [bF 0 2 148 p]))) [] λ(c,n,_,_,_) _ (a,b)=>(((c,n,(),a,()),(b,())),xeX c n a b none)
def xfW(n:Nat)(k:Int)(a:LA):=(Iter (xbw n k 20) (0,20,a)).getD (0,[])
def xfV(n:Nat)(k:Int)(a:LA):=xa2 n (xfW n k a).fst k (xfW n k a).snd
def xfU(n:Nat)(k:Int)(a:LA):=Iter (xcv n k) (20,(xfV n k a).getD [])
def xgo{T:Type}(n:Nat)(k:Int)(a:LA)(δ:T)(κ:LA->T):T:=br ((Iter (xbw n k 20) (0,20,a)).isSome) (br ((xfV n k a).isSome) (br ((xfU n k a).isSome) (κ ((xfU n k a).getD [])) δ) δ) δ
def xeS(n:Nat)(k:Int)(a:LA):=xgo n k a none some
def xKk:EO:=xyS.fM Tryz.func171 63 1 [148] [(2,xc8.lp),(9,xc9.lp),(7,xia.lp)] (lks (lkC xc8.ok (lkC xia.ok (lkC xc9.ok lkN)))) (u3 (sEq (xNb 0 0 0)) uI (sEq (xMF (143:FuncId) xM1))) (q1 (qB 0 2 148 xM3)) (λ(n,k,_,_) (a,_) _=>xgo n k a) (λ _ _ p=>(AV.tuple [],([bF 0 2 148 p]:List Box))) []
def xfT{T:Type}(n:Nat)(a:LA)(δ:T)(κ:LA->T):T:=br ((xeS n (↑n:Int) a).isSome) (κ ((xeS n (↑n:Int) a).getD [])) δ
def xgy(n:Nat)(a:LA):=xfT n a none some
def xGY:EO:=xKk.fM Tryz.func142 9 1 [148] [] lk0 (u2 (sEq (xNb 0 0 0)) (sEq (xMF (143:FuncId) xM1))) (q1 (qB 0 2 148 xM3)) (λ(n,_,_) (a,_) _=>xfT n a) (λ _ _ p=>(AV.tuple [],([bF 0 2 148 p]:List Box))) []
def xdX(b:LA)(c:Int)(a:LA):=a++[AV.agg [AV.list 3 (gC b c 0).toList,AV.list 2 []]]
def xbm(a:Nat):Nat:=0+(↑a:Int).toNat
def xb5(a:LA)(b:Int):=(xjF (gC a b 0).toList).getD []
def xgq(d:LA)(f:Int)(b:Nat)(e:Int)(c a:LA):=decide (xbm b<(xdX d e a).length)
def xaQ(c:LA)(b:Nat)(d:Int)(a:LA):=((xdX c d a).getD (xbm b) .top).cells
def xfL(a:LA)(b:Int):=decide ((xb5 a b).length<=4611686018427387904)
def xdY(b:LA)(c:Int)(a:LA):=(xMA (AV.int .i64 0) a (xb5 b c)).toInt
def xgr(c:LA)(b:Nat)(d:Int)(a:LA):=decide (0<=xdY c d a)&&decide (xdY c d a<(↑b:Int))
def xaA(c:LA)(b:Nat)(d:Int)(a:LA):=((xaQ c b d a).getD 1 .top).toList.length
def xaq(b:LA)(c:Int)(a:LA):Nat:=0+(xdY b c a).toNat
def xfK(a:LA)(d:Nat)(b:Int)(c:LA):=((xaQ a d b c).getD 1 .top).toList++[AV.agg [AV.int .i64 (gC a b 1).toInt,AV.int .i64 (gC a b 2).toInt]]
def xep(c:LA)(b:Nat)(d:Int)(a:LA):=(xdX c d a).set (xbm b) (AV.agg (List.take 1 (xaQ c b d a)++[AV.int .i64 (↑(xaA c b d a):Int)]++List.drop 2 (xaQ c b d a)))
def xgs(c:LA)(d:Int)(a b:LA):=decide (xaq c d a<b.length)
def xaB(c:LA)(d:Int)(a b:LA):=((b.getD (xaq c d a) .top).cells.getD 1 .top).toList.length
def xfJ(b:LA)(c:Int)(a d:LA):=((d.getD (xaq b c a) .top).cells.getD 1 .top).toList++[AV.agg [AV.int .i64 (gC b c 1).toInt,AV.int .i64 (gC b c 2).toInt]]
def xdi(c:LA)(a:Nat)(d:Int)(b:LA):=((xep c a d b).getD (xbm a) .top).cells
def xeq(c:LA)(d:Int)(a b:LA):=b.set (xaq c d a) (AV.agg (List.take 1 (b.getD (xaq c d a) .top).cells++[AV.int .i64 (↑(xaB c d a b):Int)]++List.drop 2 (b.getD (xaq c d a) .top).cells))
def xdj(c:LA)(d:Int)(a b:LA):=((xeq c d a b).getD (xaq c d a) .top).cells
def xdw{T:Type}(e:LA)(f:Int)(d:Nat)(c:Int)(b a:LA)(δ:T)(κl:(Nat×Int×LA×LA)->T)(κr:(Nat×LA)->T):T:=br (decide (c<f)) (br (ixI e c) (br (ixT e c 3 [Sh.list 3,Sh.int .i64,Sh.int .i64] 0) (br (!xgh (gC e c 1).toInt (gC e c 2).toInt) (κl (d,i64.wrap (c+1),b,a)) (br ((xjF (gC e c 0).toList).isSome) (br (xfL e c&&xMf (Sh.int .i64) (xMA (AV.int .i64 0) b (xb5 e c))) (br (!xMM b (xb5 e c)) (br (decide (b.length<4611686018427387904)&&xfL e c) (br (rmB d a 1 48) (br (decide ((↑d:Int)<(↑(d+1):Int))) (br (xgq e f d c b a&&(xMX 2 ((xaQ e d c a).getD 1 .top)&&(xaQ e d c a).length==2)) (br (xgq e f d c b a&&(xMX 2 ((xaQ e d c a).getD 1 .top)&&((xaQ e d c a).length==2&&(2*xaA e d c a==2*xaA e d c a&&(xaA e d c a==xaA e d c a&&(xaA e d c a==xaA e d c a&&(decide ((xaA e d c a+1)*16<=140737488355328)&&decide (xaA e d c a+1<=4611686018427387904)))))))) (br (decide ((↑d:Int)<(↑(d+1):Int))) (br (decide (xbm d<(xep e d c a).length)&&((xdi e d c a).length==2&&(xaA e d c a+1==(xfK e d c a).length&&xNj ((xdi e d c a).getD 1 .top) (xaA e d c a+1)))) (κl (d+1,i64.wrap (c+1),xMy b (xb5 e c) (AV.int .i64 (↑d:Int)),(xep e d c a).set (xbm d) (AV.agg (List.take 1 (xdi e d c a)++[AV.list 2 (xfK e d c a)]++List.drop 2 (xdi e d c a))))) δ) δ) δ) δ) δ) δ) δ) (br (xgr e d c b) (br (xgs e c b a&&(xMX 2 ((a.getD (xaq e c b) .top).cells.getD 1 .top)&&(a.getD (xaq e c b) .top).cells.length==2)) (br (xgs e c b a&&(xMX 2 ((a.getD (xaq e c b) .top).cells.getD 1 .top)&&((a.getD (xaq e c b) .top).cells.length==2&&(2*xaB e c b a==2*xaB e c b a&&(xaB e c b a==xaB e c b a&&(xaB e c b a==xaB e c b a&&(decide ((xaB e c b a+1)*16<=140737488355328)&&decide (xaB e c b a+1<=4611686018427387904)))))))) (br (xgr e d c b) (br (decide (xaq e c b<(xeq e c b a).length)&&((xdj e c b a).length==2&&(xaB e c b a+1==(xfJ e c b a).length&&xNj ((xdj e c b a).getD 1 .top) (xaB e c b a+1)))) (κl (d,i64.wrap (c+1),b,(xeq e c b a).set (xaq e c b) (AV.agg (List.take 1 (xdj e c b a)++[AV.list 2 (xfJ e c b a)]++List.drop 2 (xdj e c b a))))) δ) δ) δ) δ) δ)) δ) δ)) δ) δ) (κr (d,a))
def xbg(d:LA)(e:Int):StT (Nat×Int×LA×LA) (Nat×LA):=λ(c,f,a,b)=>xdw d e c f a b none inL inR
def xnq:=xGY.l 60 0 [] [] Tryz.f126 0 lk0 [3,4,11,12,13] [4] [(4,2,223474614420)] (q5 (xNc 0 0 0 0) (xNb 1 0 0) (qL 3) qI qI) (q2 (qB 0 2 1208925819615333616451584 xM3) (qB 0 2 223474614420 xM3)) (λ(_,c,d,e,f,_) (a,b,_)=>(xbg d e,(c,f,a,b),λ p=>(.leaf (.exit 0) [AV.osl 0 0 0 p.1] [bF 0 2 223474614420 p.2]))) (0,[]) λ(_,_,d,e,_,_) _ (c,f,a,b)=>((((),c,d,e,f,()),(a,b,())),xdw d e c f a b none)
def xlE(l:LA):=Iter (xbg l (↑l.length:Int)) (0,0,[],[])
def xew(l:LA):=(xlE l).getD (0,[])
def xir(l:LA):=xgy ((xew l).fst) ((xew l).snd)
def xmw{T:Type}(l:LA)(δ:T)(κ:LA->T):T:=br ((xlE l).isSome) (br (xMN 2 1 ((xew l).snd)) (br ((xir l).isSome) (br (decide (0+((xew l).fst)<=((xir l).getD []).length)&&true) (κ (List.take ((xew l).fst) (List.drop 0 ((xir l).getD [])))) δ) δ) δ) δ
def xee(l:LA):=xmw l none some
def xGZ:EO:=xGY.f Tryz.func126 60 0 [] [(4,xnq.lp)] (lk1 xnq.ok) (u1 (uL 3)) (λ(l,_) _=>xmw l) (λ _ p=>AV.list 2 p) []
end Go.Sim.M
end
