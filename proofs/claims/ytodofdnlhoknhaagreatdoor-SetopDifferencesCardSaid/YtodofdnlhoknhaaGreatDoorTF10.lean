/- Part 10 of the proof of the law. -/
import Derived.Test.YtodofdnlhoknhaaGreatDoorTF9
import Derived.WalkKit
import Derived.BigCall
import Derived.Lib.Strings
import Derived.Lib.Slices
import Derived.Lib.Walk
import Derived.Lib.Builder
import Derived.Lib.UnsafeStr
import Derived.Laws.Externs
import Derived.Laws.IdiomCopy
import Derived.Laws.BitsLemmas
import Derived.RegionTactic
set_option linter.defProp false
set_option linter.unusedVariables false
set_option linter.unusedSimpArgs false
set_option linter.unnecessarySimpa false
noncomputable section
namespace Go.Proofs
open Go.RowKit Go.Lib
def Tryz.lies_builder(n:Nat)(hn:1<=n):liesAt Tryz.prog Tryz.prog.depth 111 n 0 111 1:=by(have hc:Tryz.prog.cellsOf 111=2:=by kernel_rfl);have hd:Tryz.prog.depth=(2*(Tryz.prog.types.size+Made.depth)+1)+1:=rfl;generalize Tryz.prog=P at *;rw[hd];simp only[liesAt,Bool.or_eq_true];left;rw[hd];simp[rowAt,hc,hn,sameLayout]
set_option maxHeartbeats 2000000 in
set_option maxRecDepth 100000 in
def Tryz.copyCheck_used(b:Nat)(w:World)(h0:w.cell? ⟨b,0,none⟩=some (.pointer (some ⟨b,0,none⟩))):Calls Tryz.prog 130 #[.pointer (some ⟨b,0,none⟩)] w λ e w'=>e=.returned (.tuple #[])/\w'=w:=by(have hsz:(Tryz.prog.info? 111).map (·.size)=some 2:=by kernel_rfl);(obtain⟨j,hj,_⟩:=Option.map_eq_some_iff.1 hsz;have tp:Tryz.prog.underlying 108=some (.pointer 111):=by kernel_rfl);go_enter Tryz.func130,Tryz.ntmps130;go_wp2;rw[Lib.run_neq_ptr_same w _ tp hj];go_wp2;go_end0;exact⟨rfl,rfl⟩
set_option maxHeartbeats 2000000 in
set_option maxRecDepth 100000 in
def Tryz.copyCheck_fresh(b n:Nat)(hn:1<=n)(w:World)(h0:w.cell? ⟨b,0,none⟩=some (.pointer none))(J:w.shape? b=some (111,n*2))(Q:w.frozen? ⟨b,0,none⟩=false):Calls Tryz.prog 130 #[.pointer (some ⟨b,0,none⟩)] w λ e w'=>e=.returned (.tuple #[])/\w'=w.setCell ⟨b,0,none⟩ (.pointer (some ⟨b,0,none⟩)):=by
 have hsz:(Tryz.prog.info? 111).map (·.size)=some 2:=by kernel_rfl
 obtain⟨j,hj,O⟩:=Option.map_eq_some_iff.1 hsz;have hc:Tryz.prog.cellsOf 111=2:=by kernel_rfl
 have tp:Tryz.prog.underlying 108=some (.pointer 111):=by kernel_rfl
 have tu:Tryz.prog.underlying 171=some .unsafePointer:=by kernel_rfl
 have q:liesAt Tryz.prog Tryz.prog.depth 111 (n*2 / Tryz.prog.cellsOf 111) 0 111 1:=by rw[hc,Nat.mul_div_cancel _ (by decide)];exact Tryz.lies_builder n hn
 have c1:=Lib.run_to_unsafe w ⟨b,0,none⟩ tp tu hj (by rw[O];decide) J (show 0<n*2 by omega);have c2:=Lib.run_from_unsafe w ⟨b,0,none⟩ tu tp hj J q;clear q;go_enter Tryz.func130,Tryz.ntmps130;go_wp2;rw[run_callFunc_extern Tryz.func148 (by kernel_rfl) (by kernel_rfl) (by kernel_rfl) (e:=Extern.AbiNoEscape.same) (by kernel_rfl)];rw[Lib.run_noEscape];simp only[Result.andThen];rw[Oper.upon_value];go_wp2;go_end0;exact⟨rfl,rfl⟩
set_option maxHeartbeats 2000000 in
set_option maxRecDepth 100000 in
def Tryz.builder_string(b g cap:Nat)(l:List UInt8)(cur:Array Value)(w:World)(hb:w.cell? ⟨b,1,none⟩=some (.slice (some ⟨g,0,none⟩) l.length cap))(hg:w.heap[g]?=some (.cells cur 5 (0,0)))(q:∀j x,l[j]?=some x->w.cell? ((⟨g,0,none⟩:Addr).add j)=some (.int .u8 x.toNat))(V:l.length<=cur.size)(hcap:cap≠0)(h0:l≠[])(J:l.length<=9223372036854775807):Calls Tryz.prog 97 #[.pointer (some ⟨b,0,none⟩)] w λ e w'=>e=.returned (.string ⟨l.toArray⟩)/\w'=w.drew.freeze ⟨g,0,none⟩ l.length:=by(have c1:w.drew.cell? ⟨b,1,none⟩=some (.slice (some ⟨g,0,none⟩) l.length cap):=hb;have Q:Tryz.prog.underlying 155=some (.pointer 5):=by kernel_rfl);(have O:Tryz.prog.cellsOf 5=1:=by kernel_rfl);have Y:(Builtin.unsafeSliceData_ #[109] 155 #[.slice (some ⟨g,0,none⟩) l.length cap]).run Tryz.prog w.drew=.ok (.pointer (some ⟨g,0,none⟩)) w.drew:=Lib.run_unsafeSliceData_row _ _ _ _ _ _ hcap;have W:(Builtin.unsafeString_ #[155,3] 9 #[.pointer (some ⟨g,0,none⟩),.int .i64 l.length]).run Tryz.prog w.drew=.ok (.string ⟨l.toArray⟩) (w.drew.freeze ⟨g,0,none⟩ l.length):=Lib.run_unsafeString_row w.drew 155 3 9 5 Q O g cur.size (by have hg':w.drew.heap[g]?=some (.cells cur 5 (0,0)):=hg;simp[World.shape?,hg']) l h0 V J q;clear q;go_enter Tryz.func97,Tryz.ntmps97;go_wp2;go_region;all_goals (go_wp2;go_ret;exact⟨rfl,rfl⟩)
set_option maxHeartbeats 2000000 in
set_option maxRecDepth 100000 in
def Tryz.builder_string_nil(b:Nat)(w:World)(hb:w.cell? ⟨b,1,none⟩=some (.slice none 0 0)):Calls Tryz.prog 97 #[.pointer (some ⟨b,0,none⟩)] w λ e w'=>e=.returned (.string ⟨#[]⟩)/\w'=w.drew:=by have c1:w.drew.cell? ⟨b,1,none⟩=some (.slice none 0 0):=hb;have J:(Builtin.unsafeSliceData_ #[109] 155 #[.slice none 0 0]).run Tryz.prog w.drew=.ok (.pointer none) w.drew:=rfl;have q:=Lib.run_unsafeString_none (P:=Tryz.prog) w.drew 155 3 9 none;go_enter Tryz.func97,Tryz.ntmps97;go_wp2;go_region;all_goals (go_wp2;go_ret;exact⟨rfl,rfl⟩)
end Go.Proofs
end
noncomputable section
namespace Go.Sim
open Go.RowKit Go.Proofs
def M.isByte:AV->Bool|.int .u8 n=>decide (0<=n)&&decide (n<256)|_=>false
def M.isBytes(xs:List AV):Bool:=xs.all M.isByte
def M.strOf(xs:List AV):List UInt8:=xs.map λ x=>UInt8.ofNat x.toInt.toNat
def xtq(s:List UInt8):M.strOf (M.byteAVs s)=s:=by unfold M.strOf M.byteAVs;rw[List.map_map];(conv=>rhs;rw[<-List.map_id s]);exact List.map_congr_left λ u _=>by simp[AV.toInt]
def xrv(s:List UInt8):M.isBytes (M.byteAVs s):=by unfold M.isBytes M.byteAVs;rw[zI];intro x hx;obtain⟨u,_,rfl⟩:=zK.1 hx;have:=u.toNat_lt;simp only[M.isByte,zf,zl];omega
def xsb(s t:List UInt8):M.byteAVs (s++t)=M.byteAVs s++M.byteAVs t:=by simp[M.byteAVs]
def xha(s:List UInt8):(M.byteAVs s).length=s.length:=by simp[M.byteAVs]
def xDu{x:AV}(h:M.isByte x):∃u:UInt8,x=.int .u8 u.toNat:=by unfold M.isByte at h;split at h;(rename_i n;simp only[zf,zl]at h;refine⟨UInt8.ofNat n.toNat,?_⟩;have:(UInt8.ofNat n.toNat).toNat=n.toNat:=by rw[UInt8.toNat_ofNat',Nat.mod_eq_of_lt Ω]);rw[this];congr 1;omega;simp at h
def xAi(w:World)(g n k:Nat)(h:k≠g):(w.freeze ⟨g,0,none⟩ n).heap[k]?=w.heap[k]?:=by unfold World.freeze;split;rfl;simp[Array.getElem?_modify,Ne.symm h]
def xBy(w:World)(g n:Nat):(w.freeze ⟨g,0,none⟩ n).heap.size=w.heap.size:=by unfold World.freeze;split;rfl;simp
variable {H:List Box}
def xE0{w w':World}{A:Nat->Prop}{M:Id->Option MB}{B:Nat}(hR:HR w A M B H){id:Nat}{m:MB}{bx:Box}(J:0<m.cap)(hm:M (.b id)=some m)(hb:H[id]?=some bx)(Z:isC bx.ty=false)(ab:bx.frz=false)(Q:BoxAt w A M B (.b id) m bx)(v:Nat)(hv:m.ver<v)(sz:Nat)(ty:TypeId)(W:isC ty=false)(hs:w'.heap.size=w.heap.size)(hw:∀b,b≠m.b->w'.heap[b]?=w.heap[b]?):HR w' A (MSet M (.b id) ⟨m.b,v,sz,0,ty⟩) B (H.set id ⟨v,sz,ty,[],false,true⟩)/\Mv w A M w' A (MSet M (.b id) ⟨m.b,v,sz,0,ty⟩):=by
 have aa:A m.b:=(Q.guard J).1 ab;have O:MExt M (MSet M (.b id) ⟨m.b,v,sz,0,ty⟩):=xoL hm (.inr hv);have hw':∀b,b<w.heap.size->¬ A b->w'.heap[b]?=w.heap[b]?:=λ b _ hA=>hw b λ e=>hA (e▸aa);have hc:∀{p:Prop},0<(0:Nat)->p:=λ h=>absurd h Ω;have q:∀i m1,MSet M (.b id) ⟨m.b,v,sz,0,ty⟩ i=some m1->0<m1.cap->i≠.b id/\M i=some m1:=λ i m1 h1 h0=>by by_cases hi:i=.b id;subst hi;simp[MSet]at h1;subst h1;exact absurd h0 Ψ;exact⟨hi,by simpa[MSet,hi]using h1⟩
 refine⟨⟨λ i m1 h1=>?_,λ i i' m1 m2 h1 h2 c1 c2 he=>hR.inj i i' m1 m2 (q i m1 h1 c1).2 (q i' m2 h2 c2).2 c1 c2 he,λ b hb=>by rw[hs];exact hR.lt b hb⟩,⟨by omega,hw',λ _ _ h=>h,λ _ _ h _=>h,O,⟨λ b _ hb=>hw b λ e=>hb (.b id) m hm J e.symm,λ i m1 h1 h0=>.inl ⟨i,m1,(q i m1 h1 h0).2,h0,rfl⟩⟩⟩⟩;by_cases hi:i=.b id;subst hi;have:m1=⟨m.b,v,sz,0,ty⟩:=by simp[MSet]at h1;exact h1.symm
 subst this;exact⟨⟨v,sz,ty,[],false,true⟩,by rw[xbV,zL (xdk hb)],rfl,rfl,xch W,zQ _,zQ _,λ x hx=>by simp at hx,hc,hc,hc,hc⟩;have V:M i=some m1:=by simpa[MSet,hi]using h1
 obtain⟨Y,g1,g2⟩:=hR.box i m1 V;exact⟨Y,by rw[xc8 hb Z W hi];exact g1,g2.mono (λ h0=>hw _ λ e=>hi (hR.inj i (.b id) m1 m V hm h0 J e)) hw' Ω (λ _ _ h=>h) g2.guard O⟩
def xo5{w:World}{A:Nat->Prop}{M:Id->Option MB}{B:Nat}(hR:HR w A M B H){v:Value}{a x:AV}{ty:TypeId}{frz pm:Bool}(J:isC ty=false)(hv:Rel w A M v (.own (.b 0) 0 0 0))(hb:H[0]?=some ⟨0,2,ty,[.agg [a,x]],frz,pm⟩):∃m c,M (.b 0)=some m/\BoxAt w A M B (.b 0) m ⟨0,2,ty,[.agg [a,x]],frz,pm⟩/\1<=m.cap/\v=.pointer (some ⟨m.b,0,none⟩)/\w.heap[m.b]?=some (.cells c ty (0,0))/\c.size=m.cap*2/\m.sz=2/\Rel w A (MP M pm) (c.getD 0 undef) a/\Rel w A (MP M pm) (c.getD 1 undef) x/\w.cell? ⟨m.b,0,none⟩=some (c.getD 0 undef)/\w.cell? ⟨m.b,1,none⟩=some (c.getD 1 undef):=by
 obtain⟨m,hm,q,hp⟩:=xnX hR hv (xnQ hb J);have hcap:1<=m.cap:=q.fits;have hsz:m.sz=2:=q.sz.symm;obtain⟨c,h1,h2,h3⟩:=q.plainCells J Ω;rw[hsz]at h2;have r0:=h3 0 0 Ψ Ω;have r1:=h3 0 1 Ψ Ω;have h1:w.heap[m.b]?=some (.cells c ty (0,0)):=h1;have e0:w.cell? ⟨m.b,0,none⟩=some (c.getD 0 undef):=by(have:0<c.size:=Ω);simp[World.cell?,h1,this]
 have e1:w.cell? ⟨m.b,1,none⟩=some (c.getD 1 undef):=by(have:1<c.size:=Ω);simp[World.cell?,h1,this]
 refine⟨m,c,hm,q,hcap,by simpa using hp,h1,h2,hsz,by simpa[AV.cells]using r0,by simpa[AV.cells]using r1,e0,e1⟩
def xrN:List AV->List Box->Option (Bool×AV×List Box)|[.own (.b 0) 0 0 0],⟨0,2,ty,[.agg [.nilptr,x]],false,pm⟩::r=>(match Nat.beq ty 111 with|true=>some (true,.tuple [],⟨0,2,ty,[.agg [.own (.b 0) 0 0 0,x]],false,false⟩::r)|false=>none)|[.own (.b 0) 0 0 0],⟨0,2,ty,[.agg [.own (.b 0) 0 0 0,x]],false,pm⟩::r=>(match Nat.beq ty 111 with|true=>some (true,.tuple [],⟨0,2,ty,[.agg [.own (.b 0) 0 0 0,x]],false,pm⟩::r)|false=>none)|_,_=>none
def xBr:OmOk Tryz.prog xNJ 130 xrN:=λ xs H r H' h=>by
 unfold xrN at h;split at h;rename_i ty x pm rest;split at h;case h_2=>simp at h
 rename_i J;have J:=zg J;subst J;simp only[z6,zb,true_and]at h;obtain⟨rfl,rfl⟩:=h;refine⟨xeH Tryz.func130 rfl Θ,λ w0 w A M vs hI hB hR O=>?_⟩;obtain⟨v,rfl,hv⟩:=rc1 O;obtain⟨m,c,hm,q,hcap,rfl,hh,Q,hsz,r0,r1,e0,e1⟩:=xo5 hR (by rfl) hv rfl;have hn:c.getD 0 undef=.pointer none:=by revert r0;generalize c.getD 0 undef=z;intro r0;cases r0;rfl
 rw[hn]at e0;refine(Tryz.copyCheck_fresh m.b m.cap hcap w e0 (by simp[World.shape?,hh,Q]) (Lib.frozen_of_heap hh 0)).mono ?_;rintro e w' ⟨rfl,rfl⟩;rw[setCell_eq_setRow w m.b 0 c _ _ _ hh];have aa:x.one:=by have:=q.ok (.agg [.nilptr,x]) Ψ;simp only[AV.okElem,AV.cells,List.all_cons,zf]at this;exact this.2.2.1
 have W:(0:Nat)=m.ver:=q.ver;obtain⟨g1,g2,g3,g4,gt,g5⟩:=xqt (m':=m) (bx':=⟨0,2,111,[.agg [.own (.b 0) 0 0 0,x]],false,false⟩) hR Ω hm rfl q rfl rfl rfl (c':=c.setIfInBounds 0 (.pointer (some ⟨m.b,0,none⟩))) rfl rfl rfl rfl (.inl rfl)
  W (by rw [hsz]) (by have:=q.ty;rw [xch rfl] at this;exact this) rfl hcap (fun y hy=>by
   simp only [zv] at hy;subst hy;rw [hsz];simp [AV.okElem,AV.cells,aa,show (AV.own (.b 0) 0 0 0).one=true from rfl]) (by rw [hsz];simpa using Q) (fun i j hi hj=>by
   have ab:i=0:=by simpa using hi
   subst ab;rw[hsz]at hj|-;have Z:0<c.size:=Ω
   have ac:1<c.size:=Ω
   match j,hj with
   | 0,_=>
    have:(c.setIfInBounds 0 (.pointer (some ⟨m.b,0,none⟩))).getD (0*2+0) undef=.pointer (some ⟨m.b,0,none⟩):=by simp[Z]
    rw[this];exact .own _ (.b 0) 0 0 0 m hm Ω rfl (λ _=>by rw[xmq (q.nomap rfl)];simp)
   | 1,_=>
    have:(c.setIfInBounds 0 (.pointer (some ⟨m.b,0,none⟩))).getD (0*2+1) undef=c.getD 1 undef:=by simp[Array.getElem?_setIfInBounds]
    rw [this];exact r1.unmp)
 exact⟨_,A,_,rfl,hB.trans g4,λ _ _=>Iff.rfl,Ev.refl.step ⟨by simp[World.setRow],g3,λ _ _ h=>h,λ _ _ h _=>h,g2,gt⟩,by simpa using g1,.tuple #[] [] rfl Ψ⟩;rename_i ty x pm rest;split at h;case h_2=>simp at h
 rename_i J;have J:=zg J;subst J;simp only[z6,zb,true_and]at h;obtain⟨rfl,rfl⟩:=h;refine⟨xeH Tryz.func130 rfl Θ,λ w0 w A M vs hI hB hR O=>?_⟩;obtain⟨v,rfl,hv⟩:=rc1 O;obtain⟨m,c,hm,q,hcap,rfl,hh,Q,hsz,r0,r1,e0,e1⟩:=xo5 hR (by rfl) hv rfl;obtain⟨m',V,Y,hp⟩:=xnX hR r0.unmp (xnQ (n:=0) (bx:=⟨0,2,111,[.agg [.own (.b 0) 0 0 0,x]],false,pm⟩) rfl rfl);rw[hm]at V;obtain rfl:=(z6 _ _).mp V;rw[hp]at e0;refine(Tryz.copyCheck_used m.b w (by simpa using e0)).mono ?_;rintro e w' ⟨rfl,rfl⟩;exact⟨_,A,M,rfl,hB,λ _ _=>Iff.rfl,Ev.refl,hR,.tuple #[] [] rfl Ψ⟩;simp at h
def xmM:List AV->List Box->Option (Bool×AV×List Box)|[.own (.b 0) 0 0 0],[⟨0,2,ty,[.agg [a,.osl (.b 1) u 0 n]],false,pm⟩,⟨u',1,ty',bs,false,pm'⟩]=>(match Nat.beq ty 111&&(Nat.beq ty' 5&&Nat.beq u u')with|true=>some ((decide (n=bs.length)&&M.isBytes bs)&&decide (bs.length≠0),.str (M.strOf bs),[⟨0,2,ty,[.agg [a,.osl (.b 1) u 0 n]],false,pm⟩,⟨u+1,1,ty',[],false,true⟩])|false=>none)|[.own (.b 0) 0 0 0],⟨0,2,ty,[.agg [a,.nils]],false,pm⟩::r=>(match Nat.beq ty 111 with|true=>some (true,.str [],⟨0,2,ty,[.agg [a,.nils]],false,pm⟩::r)|false=>none)|_,_=>none
def xve:OmOk Tryz.prog xNJ 97 xmM:=λ xs H r H' h=>by
 unfold xmM at h;split at h;rename_i ty a u n pm u' am bs ag;split at h;case h_2=>simp at h
 rename_i O;simp only[zf]at O;obtain⟨h1,h2,h3⟩:=O;have h1:=zg h1;have h2:=zg h2;have h3:=zg h3;subst h1 h2 h3;simp only[z6,zb,zf,zl]at h;obtain⟨⟨⟨rfl,af⟩,hne⟩,rfl,rfl⟩:=h;refine⟨xeH Tryz.func97 rfl Θ,λ w0 w A MM vs hI hB hR W=>?_⟩;obtain⟨v,rfl,hv⟩:=rc1 W;obtain⟨m,c,hm,ab,hcap,rfl,hh,ah,hsz,r0,r1,e0,e1⟩:=xo5 hR (by rfl) hv rfl;obtain⟨m1,a1,ai,q,aj,ae,ac⟩:=xlg hR r1.unmp (xnQ (n:=1) (bx:=⟨u,1,5,bs,false,ag⟩) rfl rfl);have J:0<m1.cap:=by have:=q.fits;simp only at this;omega
 have ha:=ac J;subst ha;obtain⟨c1,k1,k2,k3⟩:=q.plainCells rfl J;have Q:m1.sz=1:=q.sz.symm;have ak:5=m1.ty:=by have:=q.ty;rw[xch rfl]at this;exact this
 rw[ae]at e1;simp only[Nat.zero_mul,Nat.sub_zero]at e1;have hl:(M.strOf bs).length=bs.length:=by simp[M.strOf]
 have V:∀j,j<bs.length->∃uu:UInt8,bs.getD j .top=.int .u8 uu.toNat/\(M.strOf bs)[j]?=some uu/\w.cell? ⟨m1.b,j,none⟩=some (.int .u8 uu.toNat):=λ j hj=>by have ad:bs.getD j .top∈bs:=xa9 hj;obtain⟨uu,hu⟩:=xDu (zI.1 af _ ad);refine⟨uu,hu,?_,?_⟩;have:bs[j]?=some (bs.getD j .top):=xse hj;simp only[M.strOf,List.getElem?_map,this,hu,Option.map_some,AV.toInt,zN,UInt8.ofNat_toNat];have hr:=k3 j 0 hj Ω;(rw[Q,hu]at hr;simp only[Nat.mul_one,Nat.add_zero,AV.cells,List.getD_cons_zero]at hr;have:=hr.int_inv;have aa:j<c1.size:=by have:=q.fits;simp only at this;rw[k2,Q];omega);(simp only[World.cell?,k1];have e2:c1.getD j undef=c1[j]:=by simp[aa]);rw[e2]at this;simp[aa,this]
 refine (Tryz.builder_string m.b m1.b m1.cap (M.strOf bs) c1 w (by rw [hl];exact e1) k1 (fun j x hx=>by
  have hj:j<bs.length:=by
   rcases zJ j bs.length with h'|h'
   . exact h'
   . rw[zz Ω]at hx;simp at hx
  obtain⟨uu,g1,g2,g3⟩:=V j hj;rw[g2]at hx;obtain rfl:=(z6 _ _).mp hx;by_cases Z:j=0
  . subst Z;simpa[Addr.add]using g3
  . simpa [Addr.add,Z] using g3) (by rw [hl,k2,Q];have:=q.fits;simp only at this;omega) Ω (fun e=>hne (by rw [<-hl,e];rfl)) (by rw [hl];have h1:=q.fits;have h2:=q.capm;simp only at h1;unfold maxLen at h2;omega)).mono ?_
 rintro e w' ⟨rfl,rfl⟩;rw[hl];have Y:=q.low J;obtain⟨g1,g2⟩:=xE0 hR J ai rfl rfl rfl q (u+1) (by have:=q.ver;simp only at this;omega) 1 5 rfl (w':=w.drew.freeze ⟨m1.b,0,none⟩ bs.length) (by rw[xBy];rfl) (λ b hb=>by rw[xAi _ _ _ _ hb];rfl);exact⟨_,A,_,rfl,Lib.below_freeze (hB.drew) (p:=⟨m1.b,0,none⟩) Y _,λ _ _=>Iff.rfl,Ev.refl.step g2,by simpa using g1,.str _⟩;rename_i ty a pm rest al;split at h;case h_2=>simp at h
 rename_i O;have O:=zg O;subst O;simp only[z6,zb,true_and]at h;obtain⟨rfl,rfl⟩:=h;refine⟨xeH Tryz.func97 rfl Θ,λ w0 w A MM vs hI hB hR W=>?_⟩;obtain⟨v,rfl,hv⟩:=rc1 W;obtain⟨m,c,hm,ab,hcap,rfl,hh,ah,hsz,r0,r1,e0,e1⟩:=xo5 hR (by rfl) hv rfl;have hn:c.getD 1 undef=.slice none 0 0:=by revert r1;generalize c.getD 1 undef=z;intro r1;cases r1;rfl
 rw[hn]at e1;refine(Tryz.builder_string_nil m.b w e1).mono ?_;rintro e w' ⟨rfl,rfl⟩;exact⟨_,A,MM,rfl,hB.drew,λ _ _=>Iff.rfl,Ev.refl.step ⟨zd _,λ _ _ _=>rfl,λ _ _ h=>h,λ _ _ h _=>h,MExt.refl MM,⟨λ _ _ _=>rfl,λ i m1 h1 h0=>.inl ⟨i,m1,h1,h0,rfl⟩⟩⟩,hR.drew,.str _⟩;simp at h
end Go.Sim
end
noncomputable section
namespace Go.Sim
open Go.RowKit
variable{α β γ:Type}
structure Pat (α β:Type) where
 enc:β->α
 dec:α->Option β
 ok:∀a b,dec a=some b->a=enc b
def xNO:Pat α α:=⟨λ b=>b,some,λ a b h=>by simpa using h⟩
def pInt (k:IntKind):Pat AV Int:=⟨.int k,fun v=>match v with
 |.int k' n=>match decide (k'=k)with
  |true=>some n
  |false=>none
 |_=>none,λ v n h=>by
 split at h
 . split at h
   . rename_i hk;simp only[z6]at h;rw[of_decide_eq_true hk,h]
   . simp at h
 . simp at h⟩
def pStr:Pat AV (List UInt8):=⟨.str,fun v=>match v with
 |.str s=>some s
 |_=>none,λ v n h=>by
 split at h
 . simp only[z6]at h;rw[h]
 . simp at h⟩
def pBool:Pat AV Bool:=⟨.bool,fun v=>match v with
 |.bool s=>some s
 |_=>none,λ v n h=>by
 split at h
 . simp only[z6]at h;rw[h]
 . simp at h⟩
def xN1 (sz:Nat) (q:Pat (List AV) β):Pat AV β:=⟨fun b=>.list sz (q.enc b),fun v=>match v with
 |.list z xs=>match Nat.beq z sz with
  |true=>q.dec xs
  |false=>none
 |_=>none,λ v n h=>by
 split at h
 . split at h
   . rename_i hz;rw[zg hz,q.ok _ _ h]
   . simp at h
 . simp at h⟩
def xNW (id ver off:Nat):Pat AV Nat:=⟨.osl id ver off,fun v=>match v with
 |.osl (.b i) e o n=>match Nat.beq i id&&(Nat.beq e ver&&Nat.beq o off)with
  |true=>some n
  |false=>none
 |_=>none,λ v n h=>by
 split at h
 . split at h
   . rename_i hz;simp only[zf]at hz;simp only[z6]at h;rw[zg hz.1,zg hz.2.1,zg hz.2.2,h]
   . simp at h
 . simp at h⟩
def pOslV (id off:Nat):Pat AV (Nat×Nat):=⟨fun p=>.osl id p.1 off p.2,fun v=>match v with
 |.osl (.b i) e o n=>match Nat.beq i id&&Nat.beq o off with
  |true=>some (e,n)
  |false=>none
 |_=>none,λ v n h=>by
 split at h
 . split at h
   . rename_i hz;simp only[zf]at hz;simp only[z6]at h;rw[zg hz.1,zg hz.2,<-h]
   . simp at h
 . simp at h⟩
def pOwnV (id j:Nat):Pat AV (Nat×Nat):=⟨fun p=>.own id p.1 p.2 j,fun v=>match v with
 |.own (.b a) b c d=>match Nat.beq a id&&Nat.beq d j with
  |true=>some (b,c)
  |false=>none
 |_=>none,λ v n h=>by
 split at h
 . split at h
   . rename_i hz;simp only[zf]at hz;simp only[z6]at h;rw[zg hz.1,zg hz.2,<-h]
   . simp at h
 . simp at h⟩
def xNX (id ver i j:Nat):Pat AV Unit:=⟨fun _=>.own id ver i j,fun v=>match v with
 |.own (.b a) b c d=>match Nat.beq a id&&(Nat.beq b ver&&(Nat.beq c i&&Nat.beq d j))with
  |true=>some ()
  |false=>none
 |_=>none,λ v n h=>by
 split at h
 . split at h
   . rename_i hz;simp only[zf]at hz;rw[zg hz.1,zg hz.2.1,zg hz.2.2.1,zg hz.2.2.2]
   . simp at h
 . simp at h⟩
def pEptr (sz i j:Nat) (q:Pat (List AV) β):Pat AV β:=⟨fun b=>.eptr sz (q.enc b) i j,fun v=>match v with
 |.eptr a xs c d=>match Nat.beq a sz&&(Nat.beq c i&&Nat.beq d j)with
  |true=>q.dec xs
  |false=>none
 |_=>none,λ v n h=>by
 split at h
 . split at h
   . rename_i hz;simp only[zf]at hz;rw[zg hz.1,zg hz.2.1,zg hz.2.2,q.ok _ _ h]
   . simp at h
 . simp at h⟩
def xNY (q:Pat (List AV) β):Pat AV β:=⟨fun b=>.agg (q.enc b),fun v=>match v with
 |.agg cs=>q.dec cs
 |_=>none,λ v n h=>by
 split at h
 . rw[q.ok _ _ h]
 . simp at h⟩
def xNo (f:Nat) (q:Pat (List AV) β):Pat AV β:=⟨fun b=>.func f (q.enc b),fun v=>match v with
 |.func g cs=>match Nat.beq g f with
  |true=>q.dec cs
  |false=>none
 |_=>none,λ v n h=>by
 split at h
 . split at h
   . rename_i hz;rw[zg hz,q.ok _ _ h]
   . simp at h
 . simp at h⟩
def pNils:Pat AV Unit:=⟨fun _=>.nils,fun v=>match v with
 |.nils=>some ()
 |_=>none,λ v n h=>by
 split at h
 . rfl
 . simp at h⟩
def pNilptr:Pat AV Unit:=⟨fun _=>.nilptr,fun v=>match v with
 |.nilptr=>some ()
 |_=>none,λ v n h=>by
 split at h
 . rfl
 . simp at h⟩
def xNM:Pat (List α) Unit:=⟨fun _=>[],fun v=>match v with
 |[]=>some ()
 |_=>none,λ v n h=>by
 split at h
 . rfl
 . simp at h⟩
def xNK (p:Pat α β) (q:Pat (List α) γ):Pat (List α) (β×γ):=⟨fun b=>p.enc b.1::q.enc b.2,fun v=>match v with
 |x::t=>match p.dec x with
  |some b=>match q.dec t with
   |some c=>some (b,c)
   |none=>none
  |none=>none
 |_=>none,λ v n h=>by
 split at h
 . split at h
   . rename_i hp;split at h
     . rename_i hq;cases h;rw[p.ok _ _ hp,q.ok _ _ hq]
     . simp at h
   . simp at h
 . simp at h⟩
def xNZ (ver sz ty:Nat) (frz pm:Bool) (q:Pat (List AV) β):Pat Box β:=⟨fun b=>⟨ver,sz,ty,q.enc b,frz,pm⟩,fun v=>match v with
 |⟨a,b,c,xs,f,p⟩=>match Nat.beq a ver&&(Nat.beq b sz&&(Nat.beq c ty&&((f==frz)&&(p==pm))))with
  |true=>q.dec xs
  |false=>none,λ v n h=>by
 obtain⟨a,b,c,xs,f,p⟩:=v;dsimp only at h;split at h
 . rename_i hz;simp only[zf,beq_iff_eq]at hz;rw[zg hz.1,zg hz.2.1,zg hz.2.2.1,hz.2.2.2.1,hz.2.2.2.2,q.ok _ _ h]
 . simp at h⟩
def pBoxV (sz ty:Nat) (frz pm:Bool) (q:Pat (List AV) β):Pat Box (Nat×β):=⟨fun b=>⟨b.1,sz,ty,q.enc b.2,frz,pm⟩,fun v=>match v with
 |⟨a,b,c,xs,f,p⟩=>match Nat.beq b sz&&(Nat.beq c ty&&((f==frz)&&(p==pm)))with
  |true=>match q.dec xs with
   |some y=>some (a,y)
   |none=>none
  |false=>none,λ v n h=>by
 obtain⟨a,b,c,xs,f,p⟩:=v;dsimp only at h;split at h
 . rename_i hz;simp only[zf,beq_iff_eq]at hz;split at h
   . rename_i y hy;simp only[z6]at h;rw[zg hz.1,zg hz.2.1,hz.2.2.1,hz.2.2.2,<-h,q.ok _ _ hy]
   . simp at h
 . simp at h⟩
def Sub(a b:AV):Prop:=∀(w:World)(A:Nat->Prop)(M:Id->Option MB)(v:Value),Rel w A M v a->Rel w A M v b
def SubL(aS bs:List AV):Prop:=aS.length=bs.length/\∀i,i<aS.length->Sub (aS.getD i .top) (bs.getD i .top)
def Sub.refl(a:AV):Sub a a:=λ _ _ _ _ h=>h
def Sub.of_eq{a b:AV}(h:a=b):Sub a b:=h▸Sub.refl a
def xHl(sz:Nat):Sub .nils (.list sz []):=λ w A M v h=>by cases h;exact .list0 _ _ _
variable {aS bs:List AV}
def xIP(h:SubL aS bs):Sub (.agg aS) (.agg bs):=λ w A M v hr=>by obtain⟨vs,rfl,h1,h2⟩:=hr.agg_inv;exact .agg vs bs (h1.trans h.1) λ i hi=>h.2 i (h.1.symm▸hi) w A M _ (h2 i (h.1.symm▸hi))
def xFC{w:World}{A:Nat->Prop}{M:Id->Option MB}{vs:List Value}(h:SubL aS bs)(hr:RC w A M vs aS):RC w A M vs bs:=⟨hr.1.trans h.1,λ i hi=>h.2 i (h.1.symm▸hi) w A M _ (hr.2 i (h.1.symm▸hi))⟩
structure SPat (β:Type) where
 enc:β->AV
 dec:AV->Option β
 ok:∀a b,dec a=some b->Sub a (enc b)
structure SPatL (β:Type) where
 enc:β->List AV
 dec:List AV->Option β
 ok:∀a b,dec a=some b->SubL a (enc b)
def sEq(p:Pat AV β):SPat β:=⟨p.enc,p.dec,λ a b h=>Sub.of_eq (p.ok a b h)⟩
def xNx (sz:Nat) (q:Pat (List AV) β):SPat β:=⟨fun b=>.list sz (q.enc b),fun v=>match v with
 |.nils=>q.dec []
 |.list z xs=>match Nat.beq z sz with
  |true=>q.dec xs
  |false=>none
 |_=>none,λ v n h=>by
 split at h
 . rw[<-q.ok _ _ h];exact xHl sz
 . split at h
   . rename_i hz;rw[zg hz,q.ok _ _ h];exact Sub.refl _
   . simp at h
 . simp at h⟩
def xN0 (q:SPatL β):SPat β:=⟨fun b=>.agg (q.enc b),fun v=>match v with
 |.agg cs=>q.dec cs
 |_=>none,λ v n h=>by
 split at h
 . exact xIP (q.ok _ _ h)
 . simp at h⟩
def xNN:SPatL Unit:=⟨fun _=>[],fun v=>match v with
 |[]=>some ()
 |_=>none,λ v n h=>by
 split at h
 . exact⟨rfl,λ i hi=>by simp at hi⟩
 . simp at h⟩
def xNL (p:SPat β) (q:SPatL γ):SPatL (β×γ):=⟨fun b=>p.enc b.1::q.enc b.2,fun v=>match v with
 |x::t=>match p.dec x with
  |some b=>match q.dec t with
   |some c=>some (b,c)
   |none=>none
  |none=>none
 |_=>none,λ v n h=>by
 split at h
 . split at h
   . rename_i hp;split at h
     . rename_i hq;cases h;obtain⟨h1,h2⟩:=q.ok _ _ hq;refine⟨by simp[h1],λ i hi=>?_⟩
       cases i with
       |zero=>exact p.ok _ _ hp
       |succ i=>exact h2 i (by simpa using hi)
     . simp at h
   . simp at h
 . simp at h⟩
def ocOf(pv:SPatL β)(g:β->Bool×AV):List AV->Option (Bool×AV):=λ xs=>match pv.dec xs with|some b=>some (g b)|none=>none
def omOf(pv:SPatL β)(pb:Pat (List Box) γ)(g:β->γ->Bool×AV×List Box):List AV->List Box->Option (Bool×AV×List Box):=λ xs H=>match pv.dec xs with|some b=>(match pb.dec H with|some c=>some (g b c)|none=>none)|none=>none
def lpOf (live liveO:List Nat) (conv:List (Nat×Nat×TypeId)) (pv:Pat (List AV) β) (pb:Pat (List Box) γ) (g:β->γ->Bool×LR):Lp:=⟨live,liveO,conv,fun xs H=>match pv.dec xs with|some b=>(match pb.dec H with|some c=>some (g b c)|none=>none)|none=>none⟩
section
variable{P:Program}{Inv:IV}
variable {n:FuncId}
def xlV{pv:SPatL β}{g:β->Bool×AV}(h:∀b r,g b=(true,r)->Good P Inv n (pv.enc b) r):OcOk P Inv n (ocOf pv g):=λ xs r e=>by unfold ocOf at e;split at e;rename_i b hb;simp only[z6]at e;obtain⟨h1,h2⟩:=h b r e;exact⟨h1,λ w A vs hi ha hr=>h2 w A vs hi ha (xFC (pv.ok _ _ hb) hr)⟩;simp at e
variable {pb:Pat (List Box) γ}
def xjb{pv:SPatL β}{g:β->γ->Bool×AV×List Box}(h:∀b c r H',g b c=(true,r,H')->GoodM P Inv n (pv.enc b) (pb.enc c) r H'):OmOk P Inv n (omOf pv pb g):=λ xs H r H' e=>by unfold omOf at e;split at e;rename_i b hb;split at e;rename_i c hc;simp only[z6]at e;rw[pb.ok _ _ hc];obtain⟨h1,h2⟩:=h b c r H' e;exact⟨h1,λ w0 w A M vs hi q hR hr=>h2 w0 w A M vs hi q hR (xFC (pv.ok _ _ hb) hr)⟩;simp at e;simp at e
def xFo{nt:Nat}{l:Code}{live liveO:List Nat}{conv:List (Nat×Nat×TypeId)}{pv:Pat (List AV) β}{g:β->γ->Bool×LR}(h:∀b c r,g b c=(true,r)->DoesL P Inv l (λ e1 s1=>e1=r.eval.1/\s1=⟨mkTs nt (liveO.zip r.eval.2.1),r.eval.2.2⟩) ⟨mkTs nt (live.zip (pv.enc b)),pb.enc c⟩):LoopOk P Inv nt l (lpOf live liveO conv pv pb g):=λ vals H r e=>by unfold lpOf at e;dsimp only at e;split at e;rename_i b hb;split at e;rename_i c hc;simp only[z6]at e;rw[pv.ok _ _ hb,pb.ok _ _ hc];exact h b c r e;simp at e;simp at e
end
def xcB{x:Option α}{d:α}(h:x.isSome):x=some (x.getD d):=by cases x with|none=>simp at h|some y=>rfl
end Go.Sim
end
noncomputable section
namespace Go.Sim.M
open Go.RowKit Go.Proofs
def E0:Env:=(((Env.none.with 190 xmj).with 95 xo1).withM 130 xrN).withM 97 xmM
def xKK:xM1 Tryz.prog xNJ E0:=(((xDC.with xuD).with xyt).withM xBr).withM xve
end Go.Sim.M
end
noncomputable section
namespace Go.Sim
open Go.RowKit
def EncS{α:Type}(f:α->AV)(a:Option α)(b:Option AV):Prop:=∀r,a=some r->∃x,b=some x/\Sub x (f r)
variable {b:Option AV}
def EncS.none{α:Type}{f:α->AV}:EncS f .none b:=λ r h=>by simp at h
def EncS.some{α:Type}{f:α->AV}{a:α}{b:AV}(h:Sub b (f a)):EncS f (Option.some a) (Option.some b):=λ r e=>by cases e;exact⟨b,rfl,h⟩
def EncS.br{α:Type}{f:α->AV}{t:Bool}{a a':Option α}{b':Option AV}(h1:EncS f a b)(h2:EncS f a' b'):EncS f (Sim.br t a a') (Sim.br t b b'):=by cases t<;>assumption
variable {Inv:IV}{P:Program}{args:List AV}
def Good.sub{f:FuncId}{r r':AV}(h:Good P Inv f args r)(hs:Sub r r'):Good P Inv f args r':=⟨h.1,λ w A vs hI hA q=>(h.2 w A vs hI hA q).mono λ e w'⟨v,he,hb,hr⟩=>⟨v,he,hb,hs w' A xNe v hr⟩⟩
variable {H:List Box}{frz:Bool}{k:Nat}{pm:Bool}{sz v v':Nat}{xs:List AV}
def GoodM.bump1{f:FuncId}{ty:TypeId}(Q:isC ty=false)(hv:v<v')(h:GoodM P Inv f args H (.osl (.b 0) v 0 k) [⟨v,sz,ty,xs,frz,pm⟩]):GoodM P Inv f args H (.osl (.b 0) v' 0 k) [⟨v',sz,ty,xs,frz,pm⟩]:=by
 refine⟨h.1,λ w0 w A M vs hI hB hR W=>(h.2 w0 w A M vs hI hB hR W).mono ?_⟩;rintro e w' ⟨u,A',M',rfl,h1,h2,h3,h4,h5⟩;obtain⟨m,g1,g2,g3,g4⟩:=Rel.osl_inv h5;obtain⟨bx,q1,q2⟩:=h4.box _ m g1;have:bx=⟨v,sz,ty,xs,frz,pm⟩:=by have:=q1;rw[xbV]at this;simpa using this.symm
 subst this;have V:v=m.ver:=q2.ver;have O:MExt M' (MSet M' (.b 0) ⟨m.b,v',m.sz,m.cap,m.ty⟩):=xoL g1 (.inr (by simp only;omega));have J:∀id m1,MSet M' (.b 0) ⟨m.b,v',m.sz,m.cap,m.ty⟩ id=some m1->∃m0,M' id=some m0/\m1.b=m0.b/\m1.cap=m0.cap:=λ id m1 q=>by by_cases hi:id=.b 0;subst hi;simp[MSet]at q;subst q;exact⟨m,g1,rfl,rfl⟩;exact⟨m1,by simpa[MSet,hi]using q,rfl,rfl⟩
 have hR':HR w' A' (MSet M' (.b 0) ⟨m.b,v',m.sz,m.cap,m.ty⟩) w0.heap.size [⟨v',sz,ty,xs,frz,pm⟩]:=by refine⟨λ id m1 q=>?_,λ id id' m1 m2 k1 k2 c1 c2 he=>?_,h4.lt⟩;by_cases hi:id=.b 0;(subst hi;have:m1=⟨m.b,v',m.sz,m.cap,m.ty⟩:=by simp[MSet]at q;exact q.symm);subst this;have q3:=q2.mono (w':=w') (λ _=>rfl) (λ _ _ _=>rfl) (zd _) (λ _ _ h=>h) q2.guard O;exact⟨⟨v',sz,ty,xs,frz,pm⟩,rfl,rfl,q3.sz,q3.ty,q3.capm,q3.fits,q3.ok,q3.low,q3.lt,q3.cells,q3.guard⟩;(have Y:M' id=some m1:=by simpa[MSet,hi]using q);(obtain⟨bx,k1,k2⟩:=h4.box id m1 Y;have k3:getB [⟨v',sz,ty,xs,frz,pm⟩] id=some bx:=by rw[<-k1];exact xc8 (H:=[⟨v,sz,ty,xs,frz,pm⟩]) (n:=0) (bx:=⟨v,sz,ty,xs,frz,pm⟩) (bx':=⟨v',sz,ty,xs,frz,pm⟩) rfl Q Q hi);exact⟨bx,k3,k2.mono (λ _=>rfl) (λ _ _ _=>rfl) (zd _) (λ _ _ h=>h) k2.guard O⟩;obtain⟨n1,a1,a2,a3⟩:=J id m1 k1;obtain⟨n2,b1,b2,b3⟩:=J id' m2 k2;exact h4.inj id id' n1 n2 a1 b1 Ω Ω (by rw[<-a2,<-b2,he])
 refine⟨u,A',MSet M' (.b 0) ⟨m.b,v',m.sz,m.cap,m.ty⟩,rfl,h1,h2,h3.step ⟨zd _,λ _ _ _=>rfl,λ _ _ h=>h,λ _ _ h _=>h,O,⟨λ _ _ _=>rfl,λ id m1 q h0=>?_⟩⟩,hR',?_⟩;obtain⟨n1,a1,a2,a3⟩:=J id m1 q;exact .inl ⟨id,n1,a1,by omega,a2⟩;exact .osl u (.b 0) v' 0 k ⟨m.b,v',m.sz,m.cap,m.ty⟩ (by simp[MSet]) (zd _) g3 λ _=>g4 V
def GoodM.weaken{f:FuncId}{H1 H2:List Box}{r r2:AV}(h:GoodM P Inv f args H r H1)(hw:∀w A M B v,HR w A M B H1->Rel w A M v r->∃M',HR w A M' B H2/\Mv w A M w A M'/\Rel w A M' v r2):GoodM P Inv f args H r2 H2:=by refine⟨h.1,λ w0 w A M vs hI hB hR q=>(h.2 w0 w A M vs hI hB hR q).mono ?_⟩;rintro e w' ⟨u,A',M',rfl,h1,h2,h3,h4,h5⟩;obtain⟨M2,g1,g2,g3⟩:=hw w' A' M' _ u h4 h5;exact⟨u,A',M2,rfl,h1,h2,h3.step g2,g1,g3⟩
def xEx{w:World}{A:Nat->Prop}{M:Id->Option MB}{B:Nat}(hR:HR w A M B H){n:Nat}{m:MB}{bx:Box}(hm:M (.b n)=some m)(hb:H[n]?=some bx)(V:isC bx.ty=false)(v:Nat)(hv:m.ver<v)(sz:Nat)(ty:TypeId)(O:isC ty=false):HR w A (MSet M (.b n) ⟨m.b,v,sz,0,ty⟩) B (H.set n ⟨v,sz,ty,[],false,true⟩)/\Mv w A M w A (MSet M (.b n) ⟨m.b,v,sz,0,ty⟩):=by
 have J:MExt M (MSet M (.b n) ⟨m.b,v,sz,0,ty⟩):=xoL hm (.inr hv);have hc:∀{p:Prop},0<(0:Nat)->p:=λ h=>absurd h Ω;have q:∀i m1,MSet M (.b n) ⟨m.b,v,sz,0,ty⟩ i=some m1->0<m1.cap->i≠.b n/\M i=some m1:=λ i m1 h1 h0=>by by_cases hi:i=.b n;subst hi;simp[MSet]at h1;subst h1;exact absurd h0 Ψ;exact⟨hi,by simpa[MSet,hi]using h1⟩
 refine⟨⟨λ i m1 h1=>?_,λ i i' m1 m2 h1 h2 c1 c2 he=>hR.inj i i' m1 m2 (q i m1 h1 c1).2 (q i' m2 h2 c2).2 c1 c2 he,hR.lt⟩,⟨zd _,λ _ _ _=>rfl,λ _ _ h=>h,λ _ _ h _=>h,J,⟨λ _ _ _=>rfl,λ i m1 h1 h0=>.inl ⟨i,m1,(q i m1 h1 h0).2,h0,rfl⟩⟩⟩⟩;by_cases hi:i=.b n;subst hi;have:m1=⟨m.b,v,sz,0,ty⟩:=by simp[MSet]at h1;exact h1.symm
 subst this;exact⟨⟨v,sz,ty,[],false,true⟩,by rw[xbV,zL (xdk hb)],rfl,rfl,xch O,zQ _,zQ _,λ x hx=>by simp at hx,hc,hc,hc,hc⟩;have W:M i=some m1:=by simpa[MSet,hi]using h1
 obtain⟨Q,g1,g2⟩:=hR.box i m1 W;exact⟨Q,by rw[xc8 hb V O hi];exact g1,g2.mono (λ _=>rfl) (λ _ _ _=>rfl) (zd _) (λ _ _ h=>h) g2.guard J⟩
def GoodM.drop0{f:FuncId}{w V:Nat}{ty q:TypeId}{ys:List AV}{J Q:Bool}(O:isC ty=false)(hv:v<v')(h:GoodM P Inv f args H (.osl (.b 1) w 0 k) [⟨v,sz,ty,xs,frz,pm⟩,⟨w,V,q,ys,J,Q⟩]):GoodM P Inv f args H (.osl (.b 1) w 0 k) [⟨v',sz,ty,[],false,true⟩,⟨w,V,q,ys,J,Q⟩]:=h.weaken λ w1 A M B u hR hr=>by cases hm:M (.b 0)with|some m=>(obtain⟨bx,q1,q2⟩:=hR.box _ m hm;have hb:[(⟨v,sz,ty,xs,frz,pm⟩:Box),⟨w,V,q,ys,J,Q⟩][0]?=some ⟨v,sz,ty,xs,frz,pm⟩:=rfl;rw[xbV,hb]at q1;cases q1;obtain⟨g1,g2⟩:=xEx hR hm hb O v' (by have:v=m.ver:=q2.ver;omega) sz ty O;exact⟨_,g1,g2,g2.rel hr⟩)|none=>refine⟨M,⟨λ i m W=>?_,hR.inj,hR.lt⟩,Mv.refl,hr⟩;obtain⟨bx,q1,q2⟩:=hR.box i m W;refine⟨bx,?_,q2⟩;by_cases hi:i=.b 0;subst hi;rw[hm]at W;cases W;rw[<-q1];exact xc8 (H:=[⟨v,sz,ty,xs,frz,pm⟩,⟨w,V,q,ys,J,Q⟩]) (n:=0) (bx:=⟨v,sz,ty,xs,frz,pm⟩) (bx':=⟨v',sz,ty,[],false,true⟩) rfl O O hi
def GoodM.move0{f:FuncId}{w:Nat}{ty:TypeId}(q:isC ty=false)(hv:v<v')(h:GoodM P Inv f args H (.osl (.b 0) v 0 k) [⟨v,sz,ty,xs,frz,true⟩]):GoodM P Inv f args H (.osl (.b 1) w 0 k) [⟨v',sz,ty,[],false,true⟩,⟨w,sz,ty,xs,frz,true⟩]:=h.weaken λ w1 A M B u hR hr=>by
 obtain⟨m,g1,g2,g3,g4⟩:=Rel.osl_inv hr;obtain⟨bx,q1,q2⟩:=hR.box _ m g1;have:bx=⟨v,sz,ty,xs,frz,true⟩:=by have:=q1;rw[xbV]at this;simpa using this.symm
 subst this;have Q:v=m.ver:=q2.ver;have W:M (.b 1)=none:=by cases h1:M (.b 1)with|none=>rfl|some m1=>obtain⟨b1,k1,_⟩:=hR.box _ m1 h1;rw[xbV]at k1;simp at k1
 have V:∀n i j m1,M (.r n i j)=some m1->n=0:=λ n i j m1 h1=>by obtain⟨b1,k1,_⟩:=hR.box _ m1 h1;obtain⟨b0,k2,_⟩:=xnP k1;have:=xdk k2;simp at this;omega
 let M2:Id->Option MB:=MSet (MSet M (.b 0) ⟨m.b,v',sz,0,ty⟩) (.b 1) ⟨m.b,w,m.sz,m.cap,m.ty⟩;have e1:M2 (.b 1)=some ⟨m.b,w,m.sz,m.cap,m.ty⟩:=by simp[M2,MSet]
 have e0:M2 (.b 0)=some ⟨m.b,v',sz,0,ty⟩:=by simp[M2,MSet]
 have eo:∀i,i≠.b 0->i≠.b 1->M2 i=M i:=λ i h0 h1=>by simp[M2,MSet,h0,h1]
 have J:MExt M M2:=λ i m1 h1=>by by_cases h0:i=.b 0;subst h0;rw[g1]at h1;cases h1;exact⟨_,e0,.inr (by simp only;omega)⟩;by_cases h2:i=.b 1;subst h2;rw[W]at h1;cases h1;exact⟨m1,by rw[eo i h0 h2];exact h1,.inl rfl⟩
 have O:∀i m1,M2 i=some m1->0<m1.cap->i≠.b 0/\∃i0 m0,M i0=some m0/\m0.b=m1.b/\m0.cap=m1.cap/\(i=.b 1->i0=.b 0)/\(i≠.b 1->i0=i):=λ i m1 h1 h0=>by by_cases hi:i=.b 0;subst hi;rw[e0]at h1;cases h1;exact absurd h0 Ψ;refine⟨hi,?_⟩;by_cases h2:i=.b 1;subst h2;rw[e1]at h1;cases h1;exact⟨.b 0,m,g1,rfl,rfl,λ _=>rfl,λ h=>absurd rfl h⟩;rw[eo i hi h2]at h1;exact⟨i,m1,h1,rfl,rfl,λ h=>absurd h h2,λ _=>rfl⟩
 refine⟨M2,⟨λ i m1 h1=>?_,λ i i' m1 m2 h1 h2 c1 c2 he=>?_,hR.lt⟩,⟨zd _,λ _ _ _=>rfl,λ _ _ h=>h,λ _ _ h _=>h,J,⟨λ _ _ _=>rfl,λ i m1 h1 h0=>?_⟩⟩,?_⟩;by_cases hi:i=.b 0;subst hi;rw[e0]at h1;cases h1;have hc:∀{p:Prop},0<(0:Nat)->p:=λ h=>absurd h Ω
 exact⟨⟨v',sz,ty,[],false,true⟩,rfl,rfl,rfl,xch q,zQ _,zQ _,λ x hx=>by simp at hx,hc,hc,hc,hc⟩;by_cases h2:i=.b 1;subst h2;rw[e1]at h1;cases h1;have q3:=q2.mono (w':=w1) (A':=A) (λ _=>rfl) (λ _ _ _=>rfl) (zd _) (λ _ _ h=>h) q2.guard J;refine⟨⟨w,sz,ty,xs,frz,true⟩,rfl,rfl,q3.sz,q3.ty,q3.capm,q3.fits,q3.ok,q3.low,q3.lt,λ h0=>?_,q3.guard⟩;obtain⟨c,c1,c2,c3⟩:=q3.cells h0;refine⟨c,c1,c2,λ i j hi hj=>?_⟩;have:=c3 i j hi hj;rw[xaF q,xbD q]at this;rw[xaF q,xbD (bx:=⟨w,sz,ty,xs,frz,true⟩) q];exact this;rw[eo i hi h2]at h1;obtain⟨b1,k1,k2⟩:=hR.box i m1 h1;cases i with|b n=>(rw[xbV]at k1;have:=xdk k1;have:n=0:=by simp at this;omega);subst this;exact absurd rfl hi|r n a b=>have hn:=V n a b m1 h1;subst hn;rw[xeI (H:=[⟨v,sz,ty,xs,frz,true⟩]) (by rfl) q]at k1;cases k1;exact⟨tombB,xeI (by rfl) q,k2.mono (λ _=>rfl) (λ _ _ _=>rfl) (zd _) (λ _ _ h=>h) k2.guard J⟩
 obtain⟨a1,i0,n0,a2,a3,a4,a5,a6⟩:=O i m1 h1 c1;obtain⟨b1,j0,n1,b2,b3,b4,b5,b6⟩:=O i' m2 h2 c2;have:=hR.inj i0 j0 n0 n1 a2 b2 Ω Ω (by rw[a3,b3,he]);by_cases hi:i=.b 1;by_cases hj:i'=.b 1;rw[hi,hj];rw[a5 hi,b6 hj]at this;exact absurd this.symm b1;by_cases hj:i'=.b 1;rw[a6 hi,b5 hj]at this;exact absurd this a1;rw[a6 hi,b6 hj]at this;exact this;obtain⟨a1,i0,n0,a2,a3,a4,_,_⟩:=O i m1 h1 h0;exact .inl ⟨i0,n0,a2,by omega,a3.symm⟩;exact .osl u (.b 1) w 0 k ⟨m.b,w,m.sz,m.cap,m.ty⟩ e1 (zd _) g3 λ _=>g4 Q
end Go.Sim
end
noncomputable section
namespace Go.Sim
open Go.RowKit Go.Proofs
noncomputable abbrev P0:Program:=Tryz.prog
section
variable{α β γ ρ σ:Type}
def qI:Pat AV Int:=pInt .i64
def qL(k:Nat):Pat AV (List AV):=xN1 k xNO
def qB{β:Type}(v s t:Nat)(q:Pat (List AV) β):Pat Box β:=xNZ v s t false true q
def bF(v s t:Nat)(x:List AV):Box:=⟨v,s,t,x,false,true⟩
def uI:SPat Int:=sEq qI
def uL(k:Nat):SPat (List AV):=xNx k xNO
def q1{α α0:Type}(a:Pat α α0):Pat (List α) (α0×Unit):=xNK a (xNM)
def q2{α α0 α1:Type}(a:Pat α α0)(b:Pat α α1):Pat (List α) (α0×α1×Unit):=xNK a (xNK b (xNM))
def q3{α α0 α1 α2:Type}(a:Pat α α0)(b:Pat α α1)(c:Pat α α2):Pat (List α) (α0×α1×α2×Unit):=xNK a (xNK b (xNK c (xNM)))
def q4{α α0 α1 α2 α3:Type}(a:Pat α α0)(b:Pat α α1)(c:Pat α α2)(d:Pat α α3):Pat (List α) (α0×α1×α2×α3×Unit):=xNK a (xNK b (xNK c (xNK d (xNM))))
def q5{α α0 α1 α2 α3 α4:Type}(a:Pat α α0)(b:Pat α α1)(c:Pat α α2)(d:Pat α α3)(e:Pat α α4):Pat (List α) (α0×α1×α2×α3×α4×Unit):=xNK a (xNK b (xNK c (xNK d (xNK e (xNM)))))
def q6{α α0 α1 α2 α3 α4 α5:Type}(a:Pat α α0)(b:Pat α α1)(c:Pat α α2)(d:Pat α α3)(e:Pat α α4)(f:Pat α α5):Pat (List α) (α0×α1×α2×α3×α4×α5×Unit):=xNK a (xNK b (xNK c (xNK d (xNK e (xNK f (xNM))))))
def q7{α α0 α1 α2 α3 α4 α5 α6:Type}(a:Pat α α0)(b:Pat α α1)(c:Pat α α2)(d:Pat α α3)(e:Pat α α4)(f:Pat α α5)(g:Pat α α6):Pat (List α) (α0×α1×α2×α3×α4×α5×α6×Unit):=xNK a (xNK b (xNK c (xNK d (xNK e (xNK f (xNK g (xNM)))))))
def q8{α α0 α1 α2 α3 α4 α5 α6 α7:Type}(a:Pat α α0)(b:Pat α α1)(c:Pat α α2)(d:Pat α α3)(e:Pat α α4)(f:Pat α α5)(g:Pat α α6)(h:Pat α α7):Pat (List α) (α0×α1×α2×α3×α4×α5×α6×α7×Unit):=xNK a (xNK b (xNK c (xNK d (xNK e (xNK f (xNK g (xNK h (xNM))))))))
def q9{α α0 α1 α2 α3 α4 α5 α6 α7 α8:Type}(a:Pat α α0)(b:Pat α α1)(c:Pat α α2)(d:Pat α α3)(e:Pat α α4)(f:Pat α α5)(g:Pat α α6)(h:Pat α α7)(i:Pat α α8):Pat (List α) (α0×α1×α2×α3×α4×α5×α6×α7×α8×Unit):=xNK a (xNK b (xNK c (xNK d (xNK e (xNK f (xNK g (xNK h (xNK i (xNM)))))))))
def q10{α α0 α1 α2 α3 α4 α5 α6 α7 α8 α9:Type}(a:Pat α α0)(b:Pat α α1)(c:Pat α α2)(d:Pat α α3)(e:Pat α α4)(f:Pat α α5)(g:Pat α α6)(h:Pat α α7)(i:Pat α α8)(j:Pat α α9):Pat (List α) (α0×α1×α2×α3×α4×α5×α6×α7×α8×α9×Unit):=xNK a (xNK b (xNK c (xNK d (xNK e (xNK f (xNK g (xNK h (xNK i (xNK j (xNM))))))))))
def u1{α0:Type}(a:SPat α0):SPatL (α0×Unit):=xNL a (xNN)
def u2{α0 α1:Type}(a:SPat α0)(b:SPat α1):SPatL (α0×α1×Unit):=xNL a (xNL b (xNN))
def u3{α0 α1 α2:Type}(a:SPat α0)(b:SPat α1)(c:SPat α2):SPatL (α0×α1×α2×Unit):=xNL a (xNL b (xNL c (xNN)))
def u4{α0 α1 α2 α3:Type}(a:SPat α0)(b:SPat α1)(c:SPat α2)(d:SPat α3):SPatL (α0×α1×α2×α3×Unit):=xNL a (xNL b (xNL c (xNL d (xNN))))
def u5{α0 α1 α2 α3 α4:Type}(a:SPat α0)(b:SPat α1)(c:SPat α2)(d:SPat α3)(e:SPat α4):SPatL (α0×α1×α2×α3×α4×Unit):=xNL a (xNL b (xNL c (xNL d (xNL e (xNN)))))
def u6{α0 α1 α2 α3 α4 α5:Type}(a:SPat α0)(b:SPat α1)(c:SPat α2)(d:SPat α3)(e:SPat α4)(f:SPat α5):SPatL (α0×α1×α2×α3×α4×α5×Unit):=xNL a (xNL b (xNL c (xNL d (xNL e (xNL f (xNN))))))
def u7{α0 α1 α2 α3 α4 α5 α6:Type}(a:SPat α0)(b:SPat α1)(c:SPat α2)(d:SPat α3)(e:SPat α4)(f:SPat α5)(g:SPat α6):SPatL (α0×α1×α2×α3×α4×α5×α6×Unit):=xNL a (xNL b (xNL c (xNL d (xNL e (xNL f (xNL g (xNN)))))))
def LR.okB:LR->Bool|.leaf e _ _=>(match e with|.normal=>false|_=>true)|.node _ a b=>a.okB&&b.okB
def LR.okB_ne:∀{r:LR},r.okB->r.eval.1≠.normal|.leaf e _ _,h=>λ c=>by have c:e=.normal:=c;subst c;simp[LR.okB]at h|.node true a b,h=>LR.okB_ne (r:=a) (by simp only[LR.okB,zf]at h;exact h.1)|.node false a b,h=>LR.okB_ne (r:=b) (by simp only[LR.okB,zf]at h;exact h.2)
abbrev StT(σ ρ:Type):=σ->Option (σ⊕ρ)
def inL{σ ρ:Type}(s:σ):Option (σ⊕ρ):=some (.inl s)
def inR{σ ρ:Type}(p:ρ):Option (σ⊕ρ):=some (.inr p)
def ixI(l:List AV)(i:Int):Bool:=decide ((0:Int)<=i)&&decide (i<(↑l.length:Int))
def ixS(l:List AV)(i:Int)(s:Sh)(k:Nat):Bool:=decide (i.toNat<l.length)&&xMx s ((l.getD i.toNat .top).cells.getD k .top)
def ixT(l:List AV)(i:Int)(n:Nat)(ss:List Sh)(k:Nat):Bool:=decide (i.toNat<l.length)&&((l.getD i.toNat .top).cells.length==n&&xM6 ss (l.getD i.toNat .top).cells k)
def gC(l:List AV)(i:Int)(k:Nat):AV:=(l.getD i.toNat .top).cells.getD k .top
def rmB(n:Nat)(l:List AV)(c z:Nat):Bool:=n==l.length&&(decide ((n+c)*z<=140737488355328)&&decide (n+c<=4611686018427387904))
abbrev RT:=Exit×List AV×List Box
abbrev HL(E:Env)(nt pin:Nat)(ls:List TypeId)(lp:List (Nat×Lp))(fn:Func):Prop:=LoOk Tryz.prog (xNJ.at pin) (E.fn nt pin (lsOf ls) (xNn lp)) (fn.body.getD .skip)
abbrev FX(E:Env)(nt pin:Nat)(ls:List TypeId)(lp:List (Nat×Lp))(fn:Func)(pv:SPatL β)(t:β->(T:Type)->T->(ρ->T)->T)(e:β->ρ->AV):Prop:=∀b,XF Tryz.prog (E.fn nt pin (lsOf ls) (xNn lp)) fn (fn.body.getD .skip) (pv.enc b)=t b (Option AV) none λ p=>some (e b p)
abbrev FE(t:β->(T:Type)->T->(ρ->T)->T)(e:β->ρ->AV):Prop:=∀b,Enc (e b) (t b (Option ρ) none some) (t b (Option AV) none λ p=>some (e b p))
abbrev MX(E:Env)(nt pin:Nat)(ls:List TypeId)(lp:List (Nat×Lp))(fn:Func)(pv:SPatL β)(pb:Pat (List Box) γ)(t:β->γ->(T:Type)->T->(ρ->T)->T)(e:β->γ->ρ->AV×List Box):Prop:=∀b c,XFM Tryz.prog (E.fn nt pin (lsOf ls) (xNn lp)) fn (fn.body.getD .skip) (pv.enc b) (pb.enc c)=t b c (Option (AV×List Box)) none λ p=>some (e b c p)
abbrev ME(t:β->γ->(T:Type)->T->(ρ->T)->T)(e:β->γ->ρ->AV×List Box):Prop:=∀b c,Enc (e b c) (t b c (Option ρ) none some) (t b c (Option (AV×List Box)) none λ p=>some (e b c p))
abbrev TX(E:Env)(nt pin:Nat)(ls:List TypeId)(lp:List (Nat×Lp))(fn:Func)(pv:SPatL β)(t:β->(ρ->Option AV)->Option AV)(e:β->ρ->AV):Prop:=∀b,XF Tryz.prog (E.fn nt pin (lsOf ls) (xNn lp)) fn (fn.body.getD .skip) (pv.enc b)=t b λ p=>some (e b p)
noncomputable abbrev LX(E:Env)(nt pin:Nat)(ls:List TypeId)(lp:List (Nat×Lp))(l:Code)(lv lo:List Nat)(cv:List (Nat×Nat×TypeId))(pv:Pat (List AV) β)(pb:Pat (List Box) γ)(F:β->γ->(σ->Option (σ⊕ρ))×σ×(ρ->LR))(G:β->γ->σ->(β×γ)×((σ->Option RT)->(ρ->Option RT)->Option RT)):Prop:=∀b c s,XR Tryz.prog (E.fn nt pin (lsOf ls) (xNn lp)) lv lo cv l (pv.enc (G b c s).1.1) (pb.enc (G b c s).1.2)=(G b c s).2 (λ s=>some (encR (λ s=>(pv.enc (G b c s).1.1,pb.enc (G b c s).1.2)) (F b c).2.2 (.inl s))) λ p=>some (encR (λ s=>(pv.enc (G b c s).1.1,pb.enc (G b c s).1.2)) (F b c).2.2 (.inr p))
abbrev LE(pv:Pat (List AV) β)(pb:Pat (List Box) γ)(F:β->γ->(σ->Option (σ⊕ρ))×σ×(ρ->LR))(G:β->γ->σ->(β×γ)×((σ->Option RT)->(ρ->Option RT)->Option RT)):Prop:=∀b c s,Enc (encR (λ s=>(pv.enc (G b c s).1.1,pb.enc (G b c s).1.2)) (F b c).2.2) ((F b c).1 s) ((G b c s).2 (λ s=>some (encR (λ s=>(pv.enc (G b c s).1.1,pb.enc (G b c s).1.2)) (F b c).2.2 (.inl s))) λ p=>some (encR (λ s=>(pv.enc (G b c s).1.1,pb.enc (G b c s).1.2)) (F b c).2.2 (.inr p)))
variable {a:Option α}{b:Option β}
def eV{f:α->β}(Y:Option β)(h:b=Y)(he:Enc f a Y):Enc f a b:=h▸he
abbrev LA:=List AV
variable {P:Program}
def lkN{Inv:IV}{E:Env}:∀c,c∈([]:List Code)->∀lp,E.lp (xNf c)=some lp->LoopOk P Inv E.nt c lp:=λ c h=>by simp at h
def lkC{Inv:IV}{E:Env}{l:Code}{ls:List Code}{lp0:Lp}(hok:LoopOk P Inv E.nt l lp0)(ht:∀c,c∈ls->∀lp,E.lp (xNf c)=some lp->LoopOk P Inv E.nt c lp)(h:E.lp (xNf l)=some lp0:=by kernel_rfl):∀c,c∈l::ls->∀lp,E.lp (xNf c)=some lp->LoopOk P Inv E.nt c lp:=λ c hc lp hs=>by rcases zC.1 hc with rfl|hc;rw[h,z6]at hs;subst hs;exact hok;exact ht c hc lp hs
def eN{f:α->β}:Enc f none b:=Enc.none
def eS{f:α->β}{a:α}{b:β}(h:b=f a):Enc f (some a) (some b):=Enc.some h
def eB{f:α->β}{t:Bool}{a':Option α}{b':Option β}(h1:Enc f a b)(h2:Enc f a' b'):Enc f (br t a a') (br t b b'):=Enc.br h1 h2
def fnO(pv:SPatL β)(t:β->(T:Type)->T->(ρ->T)->T)(e:β->ρ->AV)(d:ρ):List AV->Option (Bool×AV):=ocOf pv λ b=>((t b (Option ρ) none some).isSome,e b ((t b (Option ρ) none some).getD d))
def fmO(pv:SPatL β)(pb:Pat (List Box) γ)(t:β->γ->(T:Type)->T->(ρ->T)->T)(e:β->γ->ρ->AV×List Box)(d:ρ):List AV->List Box->Option (Bool×AV×List Box):=omOf pv pb λ b c=>((t b c (Option ρ) none some).isSome,e b c ((t b c (Option ρ) none some).getD d))
noncomputable def lpO(lv lo:List Nat)(cv:List (Nat×Nat×TypeId))(pv:Pat (List AV) β)(pb:Pat (List Box) γ)(F:β->γ->(σ->Option (σ⊕ρ))×σ×(ρ->LR))(d:ρ):Lp:=lpOf lv lo cv pv pb λ b c=>((Iter (F b c).1 (F b c).2.1).isSome,(F b c).2.2 ((Iter (F b c).1 (F b c).2.1).getD d))
section
variable{E:Env}
def Tot{α:Type}(e:ρ->α)(a:ρ)(x:Option α):Prop:=x=some (e a)
def eT{α:Type}{e:ρ->α}{t:Bool}{a b:ρ}{x y:Option α}(h1:Tot e a x)(h2:Tot e b y):Tot e (br t a b) (br t x y):=by cases t<;>assumption
def eU{α:Type}{e:ρ->α}{a:ρ}{x:α}(h:x=e a):Tot e a (some x):=congrArg some h
def ftO(pv:SPatL β)(f:β->ρ)(e:β->ρ->AV):List AV->Option (Bool×AV):=ocOf pv λ b=>(true,e b (f b))
variable {g:FuncId}
def ftC(h:xM1 Tryz.prog xNJ E){fn:Func}(hf:Tryz.prog.funcs[g]?=some fn)(nt pin:Nat)(ls:List TypeId)(lp:List (Nat×Lp)){pv:SPatL β}{f:β->ρ}{e:β->ρ->AV}
  (hl:HL E nt pin ls lp fn) (t:β->(ρ->Option AV)->Option AV) (hx:TX E nt pin ls lp fn pv t e:=by intro b;kernel_rfl)
  (he:∀b,Tot (e b) (f b) (t b λ p=>some (e b p)):=by intro b;repeat' first|apply eT|exact eU rfl)
  (hb:fn.body.isSome:=by exact rfl) (hn:(fn.name == "runtime.NumGoroutine")=false:=by kernel_rfl):OcOk Tryz.prog xNJ g (ftO pv f e):=xlV λ b r hh=>by
 obtain⟨_,h2⟩:=Prod.mk.inj hh;subst h2;exact xmS (p:=pin) (xqv xNa (xNb Tryz.prog _) rfl h.fn hf hb hn hl ((hx b).trans (he b)))
variable {Inv:IV}{c:Code}
def lk0(h:xNk c=[]:=by kernel_rfl)(hc:((xNg c).all λ d=>(E.lp (condId d)).isNone):=by kernel_rfl):LoOk Tryz.prog Inv E c:=xgz h hc
def lk1{l:Code}{lp0:Lp}(hok:LoopOk Tryz.prog Inv E.nt l lp0)(h:xNk c=[l]:=by kernel_rfl)(he:E.lp (xNf l)=some lp0:=by kernel_rfl)(hc:((xNg c).all λ d=>(E.lp (condId d)).isNone):=by kernel_rfl):LoOk Tryz.prog Inv E c:=xmW h (lkC hok lkN he) hc
structure EO where
 E:Env
 ok:xM1 Tryz.prog xNJ E
def EO.w(e:EO){o:List AV->Option (Bool×AV)}(c:OcOk Tryz.prog xNJ g o):EO:=⟨e.E.with g o,e.ok.with c⟩
def EO.wM(e:EO){o:List AV->List Box->Option (Bool×AV×List Box)}(c:OmOk Tryz.prog xNJ g o):EO:=⟨e.E.withM g o,e.ok.withM c⟩
variable {d:ρ}
def fnC(h:xM1 Tryz.prog xNJ E){fn:Func}(hf:Tryz.prog.funcs[g]?=some fn)(nt pin:Nat)(ls:List TypeId)(lp:List (Nat×Lp)){pv:SPatL β}{t:β->(T:Type)->T->(ρ->T)->T}{e:β->ρ->AV}
  (hl:HL E nt pin ls lp fn) (hx:FX E nt pin ls lp fn pv t e:=by intro b;kernel_rfl)
  (he:FE t e:=by intro b;repeat' first|apply eB|exact eN|exact eS rfl)
  (hb:fn.body.isSome:=by exact rfl) (hn:(fn.name == "runtime.NumGoroutine")=false:=by kernel_rfl):OcOk Tryz.prog xNJ g (fnO pv t e d):=xlV λ b r hh=>by
 obtain⟨h1,h2⟩:=Prod.mk.inj hh;subst h2;exact xmS (p:=pin) (xqv xNa (xNb Tryz.prog _) rfl h.fn hf hb hn hl ((hx b).trans (he b _ (xcB h1))))
variable {pb:Pat (List Box) γ}
def fmC(h:xM1 Tryz.prog xNJ E){fn:Func}(hf:Tryz.prog.funcs[g]?=some fn)(nt pin:Nat)(ls:List TypeId)(lp:List (Nat×Lp)){pv:SPatL β}{t:β->γ->(T:Type)->T->(ρ->T)->T}{e:β->γ->ρ->AV×List Box}
  (hl:HL E nt pin ls lp fn) (hx:MX E nt pin ls lp fn pv pb t e:=by intro b c;kernel_rfl)
  (he:ME t e:=by intro b c;repeat' first|apply eB|exact eN|exact eS rfl)
  (hp:∀c,(pb.enc c).length=pin:=by exact λ _=>rfl) (hb:fn.body.isSome:=by exact rfl) (hn:(fn.name == "runtime.NumGoroutine")=false:=by kernel_rfl):OmOk Tryz.prog xNJ g (fmO pv pb t e d):=xjb λ b c r H' hh=>by
 obtain⟨h1,h2⟩:=Prod.mk.inj hh;exact xk6 (p:=pin) (xk5 xNa (xNb Tryz.prog _) rfl h.fn (hp c) hf hb hn hl (((hx b c).trans (he b c _ (xcB h1))).trans (congrArg some h2)))
def lpC(h:xM1 Tryz.prog xNJ E)(nt pin:Nat)(ls:List TypeId)(lp:List (Nat×Lp)){l:Code}{lv lo:List Nat}{cv:List (Nat×Nat×TypeId)}{pv:Pat (List AV) β}{F:β->γ->(σ->Option (σ⊕ρ))×σ×(ρ->LR)}
  (hl:LoOk Tryz.prog (xNJ.at pin) (E.fn nt pin (lsOf ls) (xNn lp)) l) (G:β->γ->σ->(β×γ)×((σ->Option RT)->(ρ->Option RT)->Option RT))
  (hx:LX E nt pin ls lp l lv lo cv pv pb F G:=by intro b c s;kernel_rfl)
  (he:LE pv pb F G:=by intro b c s;repeat' first|apply eB|exact eN|exact eS rfl)
  (hM:∀b c,(G b c (F b c).2.1).1=(b,c):=by exact λ _ _=>rfl) (ho:∀b c r,((F b c).2.2 r).okB:=by exact λ _ _ _=>rfl):LoopOk Tryz.prog (xNJ.at pin) nt l (lpO lv lo cv pv pb F d):=xFo λ b c r hh=>by
 obtain⟨h1,h2⟩:=Prod.mk.inj hh;subst h2;have:=xwh xNa (xNb Tryz.prog _) rfl (h.fn (nt:=nt) (pin:=pin) (ls:=lsOf ls) (lp:=xNn lp)) hl (λ s=>(pv.enc (G b c s).1.1,pb.enc (G b c s).1.2)) (F b c).2.2 (λ p=>LR.okB_ne (ho b c p)) (λ s r hr=>(hx b c s).trans (he b c s r hr)) (xcB (d:=d) h1)
 dsimp only at this;rw[hM b c]at this;exact this
structure LO (pin nt:Nat) (l:Code) where
 lp:Lp
 ok:LoopOk Tryz.prog (xNJ.at pin) nt l lp
noncomputable def EO.f(x:EO){fn:Func}(hf:Tryz.prog.funcs[g]?=some fn)(nt pin:Nat)(ls:List TypeId)(lp:List (Nat×Lp))
 (hl:HL x.E nt pin ls lp fn) (pv:SPatL β) (t:β->(T:Type)->T->(ρ->T)->T) (e:β->ρ->AV) (d:ρ) (hx:FX x.E nt pin ls lp fn pv t e:=by intro b;kernel_rfl)
 (he:FE t e:=by intro b;repeat' first|apply eB|exact eN|exact eS rfl)
 (hb:fn.body.isSome:=by exact rfl) (hn:(fn.name == "runtime.NumGoroutine")=false:=by kernel_rfl):EO:=x.w (fnC (d:=d) x.ok hf nt pin ls lp hl hx he hb hn)
noncomputable def EO.fM(x:EO){fn:Func}(hf:Tryz.prog.funcs[g]?=some fn)(nt pin:Nat)(ls:List TypeId)(lp:List (Nat×Lp))
 (hl:HL x.E nt pin ls lp fn) (pv:SPatL β) (pb:Pat (List Box) γ) (t:β->γ->(T:Type)->T->(ρ->T)->T) (e:β->γ->ρ->AV×List Box) (d:ρ) (hx:MX x.E nt pin ls lp fn pv pb t e:=by intro b c;kernel_rfl)
 (he:ME t e:=by intro b c;repeat' first|apply eB|exact eN|exact eS rfl)
 (hp:∀c,(pb.enc c).length=pin:=by exact λ _=>rfl) (hb:fn.body.isSome:=by exact rfl) (hn:(fn.name == "runtime.NumGoroutine")=false:=by kernel_rfl):EO:=x.wM (fmC (d:=d) x.ok hf nt pin ls lp hl hx he hp hb hn)
noncomputable def EO.fT(x:EO){fn:Func}(hf:Tryz.prog.funcs[g]?=some fn)(nt pin:Nat)(ls:List TypeId)(lp:List (Nat×Lp))
 (hl:HL x.E nt pin ls lp fn) (t:β->(ρ->Option AV)->Option AV) (pv:SPatL β) (f:β->ρ) (e:β->ρ->AV) (hx:TX x.E nt pin ls lp fn pv t e:=by intro b;kernel_rfl)
 (he:∀b,Tot (e b) (f b) (t b λ p=>some (e b p)):=by intro b;repeat' first|apply eT|exact eU rfl)
 (hb:fn.body.isSome:=by exact rfl) (hn:(fn.name == "runtime.NumGoroutine")=false:=by kernel_rfl):EO:=x.w (ftC x.ok hf nt pin ls lp hl t hx he hb hn)
noncomputable def EO.l(x:EO)(nt pin:Nat)(ls:List TypeId)(lp:List (Nat×Lp))(fn:Func)(k:Nat)(hl:LoOk Tryz.prog (xNJ.at pin) (x.E.fn nt pin (lsOf ls) (xNn lp)) (xM5 fn k))(lv lo:List Nat)(cv:List (Nat×Nat×TypeId))(pv:Pat (List AV) β)(pb:Pat (List Box) γ)(F:β->γ->(σ->Option (σ⊕ρ))×σ×(ρ->LR))(d:ρ)
 (G:β->γ->σ->(β×γ)×((σ->Option RT)->(ρ->Option RT)->Option RT))
 (hx:LX x.E nt pin ls lp (xM5 fn k) lv lo cv pv pb F G:=by intro b c s;kernel_rfl)
 (he:LE pv pb F G:=by intro b c s;repeat' first|apply eB|exact eN|exact eS rfl)
 (hM:∀b c,(G b c (F b c).2.1).1=(b,c):=by exact λ _ _=>rfl) (ho:∀b c r,((F b c).2.2 r).okB:=by exact λ _ _ _=>rfl):LO pin nt (xM5 fn k):=⟨lpO lv lo cv pv pb F d,lpC x.ok nt pin ls lp hl G hx he hM ho⟩
def lks{ls:List Code}(hl:∀l,l∈ls->∀lp,E.lp (xNf l)=some lp->LoopOk Tryz.prog Inv E.nt l lp)(h:xNk c=ls:=by kernel_rfl)(hc:((xNg c).all λ d=>(E.lp (condId d)).isNone):=by kernel_rfl):LoOk Tryz.prog Inv E c:=xmW h hl hc
end
end
end Go.Sim
end
noncomputable section
namespace Go.Sim
def sUF:(∀{σ ρ:Type}(s:σ),(inL s:Option (σ⊕ρ))=some (.inl s))/\(∀{σ ρ:Type}(p:ρ),(inR p:Option (σ⊕ρ))=some (.inr p))/\(∀(l:List AV)(i:Int),ixI l i=(decide ((0:Int)<=i)&&decide (i<(↑l.length:Int))))/\(∀(l:List AV)(i:Int)(s:Sh)(k:Nat),ixS l i s k=(decide (i.toNat<l.length)&&xMx s ((l.getD i.toNat .top).cells.getD k .top)))/\(∀(l:List AV)(i:Int)(n:Nat)(ss:List Sh)(k:Nat),ixT l i n ss k=(decide (i.toNat<l.length)&&((l.getD i.toNat .top).cells.length==n&&xM6 ss (l.getD i.toNat .top).cells k)))/\(∀(l:List AV)(i:Int)(k:Nat),gC l i k=(l.getD i.toNat .top).cells.getD k .top)/\(∀(n:Nat)(l:List AV)(c z:Nat),rmB n l c z=(n==l.length&&(decide ((n+c)*z<=140737488355328)&&decide (n+c<=4611686018427387904)))):=⟨λ _=>rfl,λ _=>rfl,λ _ _=>rfl,λ _ _ _ _=>rfl,λ _ _ _ _ _=>rfl,λ _ _ _=>rfl,λ _ _ _ _=>rfl⟩
def sBU:((∀{α β:Type}{l:List α}(f:α->β),(l.map f).length=l.length)/\(∀{T:Type}{a b:T},br true a b=a)/\(∀{T:Type}{a b:T},br false a b=b)/\(∀(h:Decidable True),@decide True h)/\(∀(h:Decidable False),@decide False h=false)/\(∀b:Bool,(b&&true)=b)/\(∀b:Bool,(true&&b)=b)/\((!true)=false)/\((!false))/\(∀n:Nat,(n:Int).toNat=n)/\(∀n:Nat,(0:Int)<=(n:Int))/\(∀{α:Type}{a:α},(some a).isSome)/\(∀{α:Type}{a b:α},(some a).getD b=a)/\(∀{α:Type}[BEq α][ReflBEq α](a:α),(a==a))/\(∀n:Nat,0+n=n)/\(∀n:Nat,n - 0=n))/\(∀{σ ρ:Type}(s:σ),(inL s:Option (σ⊕ρ))=some (.inl s))/\(∀{σ ρ:Type}(p:ρ),(inR p:Option (σ⊕ρ))=some (.inr p))/\(∀(l:List AV)(i:Int),ixI l i=(decide ((0:Int)<=i)&&decide (i<(↑l.length:Int))))/\(∀(l:List AV)(i:Int)(s:Sh)(k:Nat),ixS l i s k=(decide (i.toNat<l.length)&&xMx s ((l.getD i.toNat .top).cells.getD k .top)))/\(∀(l:List AV)(i:Int)(n:Nat)(ss:List Sh)(k:Nat),ixT l i n ss k=(decide (i.toNat<l.length)&&((l.getD i.toNat .top).cells.length==n&&xM6 ss (l.getD i.toNat .top).cells k)))/\(∀(l:List AV)(i:Int)(k:Nat),gC l i k=(l.getD i.toNat .top).cells.getD k .top)/\(∀(n:Nat)(l:List AV)(c z:Nat),rmB n l c z=(n==l.length&&(decide ((n+c)*z<=140737488355328)&&decide (n+c<=4611686018427387904)))):=⟨⟨za,rfl,rfl,λ h=>by simp,λ h=>by simp,zS,Bool.true_and,rfl,rfl,zN,Int.natCast_nonneg,rfl,rfl,λ a=>beq_self_eq_true a,zH,Nat.sub_zero⟩,sUF⟩
def sOO:(∀{α:Type}{l:List α},l.drop 0=l)/\(∀{α:Type}{l:List α}{i:Nat},l.length<=i->l.take i=l)/\(∀n:Nat,0+n=n)/\(∀{α β:Type}{l:List α}(f:α->β),(l.map f).length=l.length)/\(∀n:Nat,n<=n)/\(∀(h:Decidable True),@decide True h)/\(∀b:Bool,(b&&true)=b)/\(∀{T:Type}{a b:T},br true a b=a)/\(∀{α:Type}{a:α},(some a).isSome)/\(∀{α:Type}{a b:α},(some a).getD b=a):=⟨zr,zi,zH,za,zd,λ h=>by simp,zS,rfl,rfl,rfl⟩
end Go.Sim
noncomputable def Go.Sim.M.xKJ:Go.Sim.EO:=Go.Sim.EO.mk Go.Sim.M.E0 Go.Sim.M.xKK
end
noncomputable section
set_option maxRecDepth 100000
namespace Go.Sim.M
open Go.IntKind (i64 u64 u8)
open Go.RowKit Go.Proofs
def xc7{T:Type}(a:List UInt8)(δ:T)(κ:Int×Nat×LA->T):T:=br (decide ((byteAVs a).length*1<=140737488355328)&&decide ((byteAVs a).length<=4611686018427387904)) (κ ((↑a.length:Int),(byteAVs a).length,byteAVs a)) δ
def xaE(a:List UInt8):=xc7 a none some
def xKM:EO:=xKJ.fM Tryz.func94 19 1 [] [] lk0 (u2 (sEq (xNX 0 0 0 0)) (sEq pStr)) (q1 (qB 0 2 111 (q1 (xNY (q2 pNilptr pNils))))) (λ(_,a,_) (((_,_,_),_),_) _=>xc7 a) (λ _ _ p=>(AV.tuple [AV.int .i64 p.1,.top],([⟨0,2,111,[AV.agg [AV.own 0 0 0 0,AV.osl 1 0 0 p.2.1]],false,false⟩,bF 0 1 5 p.2.2]:List Box))) (0,0,[])
def xeF{T:Type}(a:List UInt8)(n:Nat)(b:LA)(δ:T)(κ:Int×Nat×LA->T):T:=br (n==b.length&&(decide ((n+(byteAVs a).length)*1<=140737488355328)&&decide (n+(byteAVs a).length<=4611686018427387904))) (κ ((↑a.length:Int),n+(byteAVs a).length,b++byteAVs a)) δ
def xaB(a:List UInt8)(n:Nat)(b:LA):=xeF a n b none some
def xKN:EO:=xKM.fM Tryz.func94 19 2 [] [] lk0 (u2 (sEq (xNX 0 0 0 0)) (sEq pStr)) (q2 (xNZ 0 2 111 false false (q1 (xNY (q2 (xNX 0 0 0 0) (xNW 1 0 0))))) (qB 0 1 5 xNO)) (λ(_,a,_) (((_,n,_),_),b,_) _=>xeF a n b) (λ _ _ p=>(AV.tuple [AV.int .i64 p.1,.top],([⟨0,2,111,[AV.agg [AV.own 0 0 0 0,AV.osl 1 1 0 p.2.1]],false,false⟩,bF 1 1 5 p.2.2]:List Box))) (0,0,[])
def xm9{T:Type}(a:List UInt8)(n:Nat)(b:LA)(δ:T)(κ:Int×Nat×LA->T):T:=br (n==b.length&&(decide ((n+(byteAVs a).length)*1<=140737488355328)&&decide (n+(byteAVs a).length<=4611686018427387904))) (κ ((↑a.length:Int),n+(byteAVs a).length,b++byteAVs a)) δ
def xCZ:EO:=xKN.fM Tryz.func94 19 2 [] [] lk0 (u2 (sEq (xNX 0 0 0 0)) (sEq pStr)) (q2 (xNZ 0 2 111 false false (q1 (xNY (q2 (xNX 0 0 0 0) (xNW 1 1 0))))) (qB 1 1 5 xNO)) (λ(_,a,_) (((_,n,_),_),b,_) _=>xm9 a n b) (λ _ _ p=>(AV.tuple [AV.int .i64 p.1,.top],([⟨0,2,111,[AV.agg [AV.own 0 0 0 0,AV.osl 1 2 0 p.2.1]],false,false⟩,bF 2 1 5 p.2.2]:List Box))) (0,0,[])
def xbu:Env:=xCZ.E.fn 17 1 (lsOf []) (xNn [])
def xmw:xM1 P0 (xNJ.at 1) xbu:=xCZ.ok.fn
def xl6:LoOk P0 (xNJ.at xbu.pin) xbu (Tryz.f96.body.getD .skip):=xgz Θ
def xf5(c:Int):Int:=((c))
def xhE(c:Int):Bool:=true
def xiO{T:Type}(c:Int)(δ:T)(κ:Int->T):T:=κ (c)
def xoD(c:Int):Pre (xhE c) (XFM P0 xbu Tryz.f96 (Tryz.f96.body.getD .skip) [AV.own (0:Id) 0 0 0,AV.int .u8 c] [{ver:=0,sz:=2,ty:=(111:TypeId),xs:=[AV.agg [AV.nilptr,AV.nils]],frz:=false,pm:=true}]) ((.top,([⟨0,2,111,[AV.agg [AV.own 0 0 0 0,AV.osl 1 0 0 1]],false,false⟩,⟨0,1,5,[AV.int .u8 (xf5 c)],false,true⟩]:List Box))):=by(have h:XFM P0 xbu Tryz.f96 (Tryz.f96.body.getD .skip) [AV.own (0:Id) 0 0 0,AV.int .u8 c] [{ver:=0,sz:=2,ty:=(111:TypeId),xs:=[AV.agg [AV.nilptr,AV.nils]],frz:=false,pm:=true}]=xiO c none (λ(p:Int)=>some (((.top,([⟨0,2,111,[AV.agg [AV.own 0 0 0 0,AV.osl 1 0 0 1]],false,false⟩,⟨0,1,5,[AV.int .u8 p],false,true⟩]:List Box))):(AV×List Box))):=by kernel_rfl);rw[h];unfold xf5 xhE xiO;repeat' (first|exact Pre.none|exact Pre.tt rfl|exact Pre.some rfl|refine Pre.l ?_|refine Pre.r ?_|refine Pre.br (f:=λ(p:Int)=>(((.top,([⟨0,2,111,[AV.agg [AV.own 0 0 0 0,AV.osl 1 0 0 1]],false,false⟩,⟨0,1,5,[AV.int .u8 p],false,true⟩]:List Box))):(AV×List Box))) ?_ ?_|refine Pre.brt (f:=λ(p:Int)=>(((.top,([⟨0,2,111,[AV.agg [AV.own 0 0 0 0,AV.osl 1 0 0 1]],false,false⟩,⟨0,1,5,[AV.int .u8 p],false,true⟩]:List Box))):(AV×List Box))) ?_ ?_)
def xoC:LA->List Box->Option (Bool×AV×List Box):=omOf (xNL (sEq (xNX 0 0 0 0)) (xNL (sEq (pInt .u8)) xNN)) (xNK (xNZ 0 2 (111:TypeId) false true (xNK (xNY (xNK pNilptr (xNK pNils xNM))) xNM)) xNM) λ(_,(c,_)) (((_,(_,_)),_),_)=>(true,((.top,([⟨0,2,111,[AV.agg [AV.own 0 0 0 0,AV.osl 1 0 0 1]],false,false⟩,⟨0,1,5,[AV.int .u8 (xf5 c)],false,true⟩]:List Box))))
def xoB:OmOk P0 xNJ 96 (xoC):=xjb λ b d h f e=>by obtain⟨_,⟨c,_⟩⟩:=b;obtain⟨⟨⟨_,⟨_,_⟩⟩,_⟩,_⟩:=d;obtain⟨g,a⟩:=Prod.mk.inj e;refine xk6 (p:=xbu.pin) (xk5 xNa (xNb P0 _) rfl xmw rfl Tryz.func96 rfl (by kernel_rfl) xl6 ((Pre.get (xoD _) rfl).trans ?_));exact congrArg some a
def xKO:EO:=xCZ.wM xoB
def xiy{T:Type}(c:Int)(n:Nat)(a:LA)(δ:T)(κ:Nat×LA->T):T:=br (rmB n a 1 1) (κ (n+1,a++[AV.int .u8 c])) δ
def xef(c:Int)(n:Nat)(a:LA):=xiy c n a none some
def xKP:EO:=xKO.fM Tryz.func96 17 2 [] [] lk0 (u2 (sEq (xNX 0 0 0 0)) (sEq (pInt .u8))) (q2 (xNZ 0 2 111 false false (q1 (xNY (q2 (xNX 0 0 0 0) (xNW 1 0 0))))) (qB 0 1 5 xNO)) (λ(_,c,_) (((_,n,_),_),a,_) _=>xiy c n a) (λ _ _ p=>(.top,([⟨0,2,111,[AV.agg [AV.own 0 0 0 0,AV.osl 1 1 0 p.1]],false,false⟩,bF 1 1 5 p.2]:List Box))) (0,[])
def xff{T:Type}(c:Int)(n:Nat)(a:LA)(δ:T)(κ:Nat×LA->T):T:=br (rmB n a 1 1) (κ (n+1,a++[AV.int .u8 c])) δ
def xeg(c:Int)(n:Nat)(a:LA):=xff c n a none some
def xKQ:EO:=xKP.fM Tryz.func96 17 2 [] [] lk0 (u2 (sEq (xNX 0 0 0 0)) (sEq (pInt .u8))) (q2 (xNZ 0 2 111 false false (q1 (xNY (q2 (xNX 0 0 0 0) (xNW 1 1 0))))) (qB 1 1 5 xNO)) (λ(_,c,_) (((_,n,_),_),a,_) _=>xff c n a) (λ _ _ p=>(.top,([⟨0,2,111,[AV.agg [AV.own 0 0 0 0,AV.osl 1 2 0 p.1]],false,false⟩,bF 2 1 5 p.2]:List Box))) (0,[])
def xhk(a b:Int):Bool:=(br (decide (a>=0)) (br (decide (a<b)) ((decide (b<=1099511627776))) ((false))) ((false)))
def xyk{T:Type}(a b:Int)(δ:T)(κ:Bool->T):T:=br (decide (a>=0)) (br (decide (a<b)) (κ (decide (b<=1099511627776))) (κ (false))) (κ (false))
def xCx:EO:=xKQ.fT Tryz.func111 18 0 [] [] lk0 (λ((a,b,_),_)=>xyk a b none) (u1 (xN0 (u2 uI uI))) (λ((a,b,_),_)=>xhk a b) (λ _ p=>(AV.bool p))
def xfU(b:Int)(a:LA):=((a.getD (0+b.toNat) .top).cells.getD 0 .top).toInt
def xk0(d:Int)(c:Nat)(b a:LA):=((xaB (Lib.itoa (xfU d b)) c a).getD (0,0,[])).snd
def xkx(d:Int)(c:Nat)(b a:LA):=xeg 32 (xk0 d c b a).fst (xk0 d c b a).snd
def xkZ(d:Int)(c:Nat)(b a:LA):=(xkx d c b a).getD (0,[])
def xiQ{T:Type}(k:LA)(l j:Int)(e:Nat)(i c:Int)(d:Nat)(f g:Int)(h:List UInt8)(a b:LA)(δ:T)(κl:(Int×Nat×Int×Int×List UInt8×LA×LA)->T)(κr:(Nat×Int×Int×List UInt8×LA)->T):T:=br (decide (c<i)) (br (decide (0<=c)&&decide (c<(↑e:Int))) (br (decide (0+c.toNat<a.length)&&xMx (Sh.int .i64) ((a.getD (0+c.toNat) .top).cells.getD 0 .top)) (br (decide ((-9223372036854775808)<=xfU c a)&&decide (xfU c a<=9223372036854775807)) (br ((xaB (Lib.itoa (xfU c a)) d b).isSome) (br ((xkx c d a b).isSome) (κl (i64.wrap (c+1),(xkZ c d a b).fst,f,g,h,a,(xkZ c d a b).snd)) δ) δ) δ) δ) δ) (κr (d,f,g,h,b))
def xbE(k:LA)(l e:Int)(c:Nat)(f:Int):StT (Int×Nat×Int×Int×List UInt8×LA×LA) (Nat×Int×Int×List UInt8×LA):=λ(g,d,h,i,j,b,a)=>xiQ k l e c f g d h i j b a none inL inR
def xhQ:=xCx.l 37 0 [] [] Tryz.f141 1 lk0 [3,5,8,9,10,21,22,23] [3,5,8,9,10] [] (q8 (xNX 0 0 0 0) (xNX 1 0 0 0) (qL 3) qI qI (xNW 2 0 0) qI qI) (q4 (xNZ 0 2 111 false false (q1 (xNY (q2 (xNX 0 0 0 0) (xNW 3 0 0))))) (qB 0 3 87 (q1 (xNY (q3 qI qI pStr)))) (qB 0 1 3 xNO) (qB 0 1 5 xNO)) (λ(_,_,k,m,e,c,f,g,_) (((_,d,_),_),((h,i,j,_),_),b,a,_)=>(xbE k m e c f,(g,d,h,i,j,b,a),λ p=>(.leaf (.exit 2) [AV.own 0 0 0 0,AV.own 1 0 0 0,AV.list 3 k,AV.int .i64 m,AV.int .i64 e] [⟨0,2,111,[AV.agg [AV.own 0 0 0 0,AV.osl 2 0 0 p.1]],false,false⟩,bF 0 3 87 [AV.agg [AV.int .i64 p.2.1,AV.int .i64 p.2.2.1,AV.str p.2.2.2.1]],bF 0 1 5 p.2.2.2.2]))) (0,0,0,[],[]) λ(_,_,k,m,e,c,f,_,_) _ (g,d,h,i,j,b,a)=>((((),(),k,m,e,c,f,g,()),((((),d,()),()),((h,i,j,()),()),b,a,())),xiQ k m e c f g d h i j b a none)
def xkY(b:LA)(e a:Int)(d:Nat)(c:LA):=Iter (xbE b e a 3 3) (0,d,(gC b a 0).toInt,(gC b a 1).toInt,(gC b a 2).toStr,[AV.int .i64 (gC b a 0).toInt,AV.int .i64 (gC b a 1).toInt,AV.int .i64 (↑(gC b a 2).toStr.length:Int)],c)
def xhP(d:LA)(e c:Int)(b:Nat)(a:LA):=(xkY d e c b a).getD (0,0,0,[],[])
def xkX(d:LA)(e c:Int)(b:Nat)(a:LA):=xaB ((xhP d e c b a).snd.snd.snd).fst (xhP d e c b a).fst ((xhP d e c b a).snd.snd.snd).snd
def xkW(d:LA)(e c:Int)(b:Nat)(a:LA):=((xkX d e c b a).getD (0,0,[])).snd
def xiP{T:Type}(d:LA)(e b:Int)(c:Nat)(a:LA)(δ:T)(κl:(Int×Nat×LA)->T)(κr:(Nat×LA)->T):T:=br (decide (b<e)) (br (ixI d b) (br (ixT d b 3 [Sh.int .i64,Sh.int .i64,Sh.str] 0) (br ((xkY d e b c a).isSome) (br ((xkX d e b c a).isSome) (κl (i64.wrap (b+1),(xkW d e b c a).fst,(xkW d e b c a).snd)) δ) δ) δ) δ) (κr (c,a))
def xdU(d:LA)(e:Int):StT (Int×Nat×LA) (Nat×LA):=λ(c,b,a)=>xiP d e c b a none inL inR
def xpj:=xCx.l 37 0 [] [(6,xhQ.lp)] Tryz.f141 0 (lk1 xhQ.ok) [3,8,9,10] [3] [] (q4 (xNX 0 0 0 0) (qL 3) qI qI) (q2 (xNZ 0 2 111 false false (q1 (xNY (q2 (xNX 0 0 0 0) (xNW 1 0 0))))) (qB 0 1 5 xNO)) (λ(_,d,e,c,_) (((_,b,_),_),a,_)=>(xdU d e,(c,b,a),λ p=>(.leaf (.exit 0) [AV.own 0 0 0 0] [⟨0,2,111,[AV.agg [AV.own 0 0 0 0,AV.osl 1 0 0 p.1]],false,false⟩,bF 0 1 5 p.2]))) (0,[]) λ(_,d,e,_,_) _ (c,b,a)=>((((),d,e,c,()),((((),b,()),()),a,())),xiP d e c b a none)
def xdE(a:LA):=((a.getD 0 .top).cells.getD 0 .top).toInt
def xnM(a:LA):=xef 32 ((xaE (Lib.itoa (xdE a))).getD (0,0,[])).snd.fst ((xaE (Lib.itoa (xdE a))).getD (0,0,[])).snd.snd
def xnL(a:LA):=(xnM a).getD (0,[])
def xnK(a:LA):=Iter (xbE a (↑a.length:Int) 0 3 3) (1,(xnL a).fst,xdE a,((a.getD 0 .top).cells.getD 1 .top).toInt,((a.getD 0 .top).cells.getD 2 .top).toStr,[AV.int .i64 (xdE a),AV.int .i64 ((a.getD 0 .top).cells.getD 1 .top).toInt,AV.int .i64 (↑((a.getD 0 .top).cells.getD 2 .top).toStr.length:Int)],(xnL a).snd)
def xka(a:LA):=(xnK a).getD (0,0,0,[],[])
def xnJ(a:LA):=xaB ((xka a).snd.snd.snd).fst (xka a).fst ((xka a).snd.snd.snd).snd
def xnI(a:LA):=((xnJ a).getD (0,0,[])).snd
def xnH(a:LA):=Iter (xdU a (↑a.length:Int)) (1,(xnI a).fst,(xnI a).snd)
def xgd(a:LA):=(xnH a).getD (0,[])
def xoJ{T:Type}(a:LA)(δ:T)(κ:List UInt8->T):T:=br (decide (0<(↑a.length:Int))) (br (decide (0<(↑a.length:Int))) (br (decide (0<a.length)&&((a.getD 0 .top).cells.length==3&&xM6 [Sh.int .i64,Sh.int .i64,Sh.str] (a.getD 0 .top).cells 0)) (br (decide ((-9223372036854775808)<=xdE a)&&decide (xdE a<=9223372036854775807)) (br ((xaE (Lib.itoa (xdE a))).isSome) (br ((xnM a).isSome) (br ((xnK a).isSome) (br ((xnJ a).isSome) (br ((xnH a).isSome) (br (decide ((xgd a).fst=((xgd a).snd).length)&&isBytes ((xgd a).snd)&&decide (((xgd a).snd).length≠0)) (κ (strOf ((xgd a).snd))) δ) δ) δ) δ) δ) δ) δ) δ) δ) (κ ([]))
def xkV(a:LA):=xoJ a none some
def xC0:EO:=xCx.f Tryz.func141 37 0 [] [(6,xhQ.lp),(3,xpj.lp)] (lks (lkC xpj.ok (lkC xhQ.ok lkN))) (u1 (uL 3)) (λ(a,_) _=>xoJ a) (λ _ p=>AV.str p) []
def xic(b:Int)(a:LA):=((a.getD (0+b.toNat) .top).cells.getD 0 .top).toInt
def xoj(d:Int)(c:Nat)(b a:LA):=((xaB (Lib.itoa (xic d b)) c a).getD (0,0,[])).snd
def xoi(d:Int)(c:Nat)(b a:LA):=xeg 32 (xoj d c b a).fst (xoj d c b a).snd
def xoh(d:Int)(c:Nat)(b a:LA):=(xoi d c b a).getD (0,[])
def xl3{T:Type}(k:LA)(l j:Int)(e:Nat)(i c:Int)(d:Nat)(f g:Int)(h:List UInt8)(a b:LA)(δ:T)(κl:(Int×Nat×Int×Int×List UInt8×LA×LA)->T)(κr:(Nat×Int×Int×List UInt8×LA)->T):T:=br (decide (c<i)) (br (decide (0<=c)&&decide (c<(↑e:Int))) (br (decide (0+c.toNat<a.length)&&xMx (Sh.int .i64) ((a.getD (0+c.toNat) .top).cells.getD 0 .top)) (br (decide ((-9223372036854775808)<=xic c a)&&decide (xic c a<=9223372036854775807)) (br ((xaB (Lib.itoa (xic c a)) d b).isSome) (br ((xoi c d a b).isSome) (κl (i64.wrap (c+1),(xoh c d a b).fst,f,g,h,a,(xoh c d a b).snd)) δ) δ) δ) δ) δ) (κr (d,f,g,h,b))
def xcv(k:LA)(l e:Int)(c:Nat)(f:Int):StT (Int×Nat×Int×Int×List UInt8×LA×LA) (Nat×Int×Int×List UInt8×LA):=λ(g,d,h,i,j,b,a)=>xl3 k l e c f g d h i j b a none inL inR
def xkG:=xC0.l 37 0 [] [] Tryz.f62 1 lk0 [3,5,8,9,10,21,22,23] [3,5,8,9,10] [] (q8 (xNX 0 0 0 0) (xNX 1 0 0 0) (qL 3) qI qI (xNW 2 0 0) qI qI) (q4 (xNZ 0 2 111 false false (q1 (xNY (q2 (xNX 0 0 0 0) (xNW 3 0 0))))) (qB 0 3 87 (q1 (xNY (q3 qI qI pStr)))) (qB 0 1 3 xNO) (qB 0 1 5 xNO)) (λ(_,_,k,m,e,c,f,g,_) (((_,d,_),_),((h,i,j,_),_),b,a,_)=>(xcv k m e c f,(g,d,h,i,j,b,a),λ p=>(.leaf (.exit 2) [AV.own 0 0 0 0,AV.own 1 0 0 0,AV.list 3 k,AV.int .i64 m,AV.int .i64 e] [⟨0,2,111,[AV.agg [AV.own 0 0 0 0,AV.osl 2 0 0 p.1]],false,false⟩,bF 0 3 87 [AV.agg [AV.int .i64 p.2.1,AV.int .i64 p.2.2.1,AV.str p.2.2.2.1]],bF 0 1 5 p.2.2.2.2]))) (0,0,0,[],[]) λ(_,_,k,m,e,c,f,_,_) _ (g,d,h,i,j,b,a)=>((((),(),k,m,e,c,f,g,()),((((),d,()),()),((h,i,j,()),()),b,a,())),xl3 k m e c f g d h i j b a none)
def xog(b:LA)(e a:Int)(d:Nat)(c:LA):=Iter (xcv b e a 3 3) (0,d,(gC b a 0).toInt,(gC b a 1).toInt,(gC b a 2).toStr,[AV.int .i64 (gC b a 0).toInt,AV.int .i64 (gC b a 1).toInt,AV.int .i64 (↑(gC b a 2).toStr.length:Int)],c)
def xkF(d:LA)(e c:Int)(b:Nat)(a:LA):=(xog d e c b a).getD (0,0,0,[],[])
def xof(d:LA)(e c:Int)(b:Nat)(a:LA):=xaB ((xkF d e c b a).snd.snd.snd).fst (xkF d e c b a).fst ((xkF d e c b a).snd.snd.snd).snd
def xoe(d:LA)(e c:Int)(b:Nat)(a:LA):=((xof d e c b a).getD (0,0,[])).snd
def xl2{T:Type}(d:LA)(e b:Int)(c:Nat)(a:LA)(δ:T)(κl:(Int×Nat×LA)->T)(κr:(Nat×LA)->T):T:=br (decide (b<e)) (br (ixI d b) (br (ixT d b 3 [Sh.int .i64,Sh.int .i64,Sh.str] 0) (br ((xog d e b c a).isSome) (br ((xof d e b c a).isSome) (κl (i64.wrap (b+1),(xoe d e b c a).fst,(xoe d e b c a).snd)) δ) δ) δ) δ) (κr (c,a))
def xfj(d:LA)(e:Int):StT (Int×Nat×LA) (Nat×LA):=λ(c,b,a)=>xl2 d e c b a none inL inR
def xrE:=xC0.l 37 0 [] [(6,xkG.lp)] Tryz.f62 0 (lk1 xkG.ok) [3,8,9,10] [3] [] (q4 (xNX 0 0 0 0) (qL 3) qI qI) (q2 (xNZ 0 2 111 false false (q1 (xNY (q2 (xNX 0 0 0 0) (xNW 1 0 0))))) (qB 0 1 5 xNO)) (λ(_,d,e,c,_) (((_,b,_),_),a,_)=>(xfj d e,(c,b,a),λ p=>(.leaf (.exit 0) [AV.own 0 0 0 0] [⟨0,2,111,[AV.agg [AV.own 0 0 0 0,AV.osl 1 0 0 p.1]],false,false⟩,bF 0 1 5 p.2]))) (0,[]) λ(_,d,e,_,_) _ (c,b,a)=>((((),d,e,c,()),((((),b,()),()),a,())),xl2 d e c b a none)
def xfp(a:LA):=((a.getD 0 .top).cells.getD 0 .top).toInt
def xrf(a:LA):=xef 32 ((xaE (Lib.itoa (xfp a))).getD (0,0,[])).snd.fst ((xaE (Lib.itoa (xfp a))).getD (0,0,[])).snd.snd
def xre(a:LA):=(xrf a).getD (0,[])
def xrd(a:LA):=Iter (xcv a (↑a.length:Int) 0 3 3) (1,(xre a).fst,xfp a,((a.getD 0 .top).cells.getD 1 .top).toInt,((a.getD 0 .top).cells.getD 2 .top).toStr,[AV.int .i64 (xfp a),AV.int .i64 ((a.getD 0 .top).cells.getD 1 .top).toInt,AV.int .i64 (↑((a.getD 0 .top).cells.getD 2 .top).toStr.length:Int)],(xre a).snd)
def xok(a:LA):=(xrd a).getD (0,0,0,[],[])
def xrc(a:LA):=xaB ((xok a).snd.snd.snd).fst (xok a).fst ((xok a).snd.snd.snd).snd
def xrb(a:LA):=((xrc a).getD (0,0,[])).snd
def xra(a:LA):=Iter (xfj a (↑a.length:Int)) (1,(xrb a).fst,(xrb a).snd)
def xjp(a:LA):=(xra a).getD (0,[])
def xr2{T:Type}(a:LA)(δ:T)(κ:List UInt8->T):T:=br (decide (0<(↑a.length:Int))) (br (decide (0<(↑a.length:Int))) (br (decide (0<a.length)&&((a.getD 0 .top).cells.length==3&&xM6 [Sh.int .i64,Sh.int .i64,Sh.str] (a.getD 0 .top).cells 0)) (br (decide ((-9223372036854775808)<=xfp a)&&decide (xfp a<=9223372036854775807)) (br ((xaE (Lib.itoa (xfp a))).isSome) (br ((xrf a).isSome) (br ((xrd a).isSome) (br ((xrc a).isSome) (br ((xra a).isSome) (br (decide ((xjp a).fst=((xjp a).snd).length)&&isBytes ((xjp a).snd)&&decide (((xjp a).snd).length≠0)) (κ (strOf ((xjp a).snd))) δ) δ) δ) δ) δ) δ) δ) δ) δ) (κ ([]))
def xaG(a:LA):=xr2 a none some
def xvM:EO:=xC0.f Tryz.func62 37 0 [] [(6,xkG.lp),(3,xrE.lp)] (lks (lkC xrE.ok (lkC xkG.ok lkN))) (u1 (uL 3)) (λ(a,_) _=>xr2 a) (λ _ p=>AV.str p) []
def xg6(x:Int):Bool:=((x !=x))
def xBq{T:Type}(x:Int)(δ:T)(κ:Bool->T):T:=κ (x !=x)
def xKR:EO:=xvM.fT Tryz.func138 6 0 [] [] lk0 (λ(x,_)=>xBq x none) (u1 uI) (λ(x,_)=>xg6 x) (λ _ p=>(AV.bool p))
def xdP(x y:Int):Int:=(br (xg6 x) (br (xg6 y) ((0)) (((-1)))) (br (xg6 y) ((1)) (br (decide (x<y)) (((-1))) (br (decide (x>y)) ((1)) ((0))))))
def xzq{T:Type}(x y:Int)(δ:T)(κ:Int->T):T:=br (xg6 x) (br (xg6 y) (κ (0)) (κ ((-1)))) (br (xg6 y) (κ (1)) (br (decide (x<y)) (κ ((-1))) (br (decide (x>y)) (κ (1)) (κ (0)))))
def xC1:EO:=xKR.fT Tryz.func110 20 0 [] [] lk0 (λ(x,y,_)=>xzq x y none) (u2 uI uI) (λ(x,y,_)=>xdP x y) (λ _ p=>(AV.int .i64 p))
def xkR:Env:=xC1.E.fn 18 0 (lsOf []) (xNn [])
def xz4:xM1 P0 (xNJ.at 0) xkR:=xC1.ok.fn
def xvZ:LoOk P0 (xNJ.at xkR.pin) xkR (Tryz.f109.body.getD .skip):=xmW (ls:=[xM5 Tryz.f109 0]) Θ (fun l a lp b=>by
 simp only[zC,List.not_mem_nil,or_false]at a;rcases a with rfl
 . rw[show xkR.lp (xNf (xM5 Tryz.f109 0))=none by kernel_rfl]at b
   simp at b)
def xqF(a b c:Int):Int:=(br (a !=0) ((a)) (br (b !=0) ((b)) (br (c !=0) ((c)) ((0)))))
def xvx(a b c:Int):Bool:=true
def xz5{T:Type}(a b c:Int)(δ:T)(κ:Int->T):T:=br (a !=0) (κ (a)) (br (b !=0) (κ (b)) (br (c !=0) (κ (c)) (κ (0))))
def xGm(a b c:Int):Pre (xvx a b c) (XF P0 xkR Tryz.f109 (Tryz.f109.body.getD .skip) [AV.list 1 [AV.int .i64 a,AV.int .i64 b,AV.int .i64 c]]) (AV.int .i64 (xqF a b c)):=by(have h:XF P0 xkR Tryz.f109 (Tryz.f109.body.getD .skip) [AV.list 1 [AV.int .i64 a,AV.int .i64 b,AV.int .i64 c]]=xz5 a b c none (λ(p:Int)=>some ((AV.int .i64 p):AV)):=by kernel_rfl);rw[h];unfold xqF xvx xz5;repeat' (first|exact Pre.none|exact Pre.tt rfl|exact Pre.some rfl|refine Pre.l ?_|refine Pre.r ?_|refine Pre.br (f:=λ(p:Int)=>((AV.int .i64 p):AV)) ?_ ?_|refine Pre.brt (f:=λ(p:Int)=>((AV.int .i64 p):AV)) ?_ ?_)
def xGl:LA->Option (Bool×AV):=ocOf (xNL (xNx 1 (xNK (pInt .i64) (xNK (pInt .i64) (xNK (pInt .i64) xNM)))) xNN) λ((a,(b,(c,_))),_)=>(true,(AV.int .i64 (xqF a b c)))
def xGk:OcOk P0 xNJ 109 (xGl):=xlV λ e h f=>by obtain⟨⟨a,⟨b,⟨c,_⟩⟩⟩,_⟩:=e;obtain⟨g,d⟩:=Prod.mk.inj f;refine xmS (p:=xkR.pin) (xqv xNa (xNb P0 _) rfl xz4 Tryz.func109 rfl (by kernel_rfl) xvZ ((Pre.get (xGm _ _ _) rfl).trans ?_));exact congrArg some d
def xKS:EO:=xC1.w xGk
def xbU(a b:Int)(c:List UInt8)(d e:Int)(f:List UInt8):Int:=((xqF (xdP a d) (xdP b e) (Lib.compareBytes c f)))
def xwX{T:Type}(a b:Int)(c:List UInt8)(d e:Int)(f:List UInt8)(δ:T)(κ:Int->T):T:=κ (xqF (xdP a d) (xdP b e) (Lib.compareBytes c f))
def xHs:EO:=xKS.fT Tryz.func173 22 0 [] [] lk0 (λ((a,b,c,_),(d,e,f,_),_)=>xwX a b c d e f none) (u2 (xN0 (u3 uI uI (sEq pStr))) (xN0 (u3 uI uI (sEq pStr)))) (λ((a,b,c,_),(d,e,f,_),_)=>xbU a b c d e f) (λ _ p=>(AV.int .i64 p))
def xcE(c b:LA)(a:Int):=xbU (gC b a 0).toInt (gC b a 1).toInt (gC b a 2).toStr (gC c a 0).toInt (gC c a 1).toInt (gC c a 2).toStr
def xcS{T:Type}(e c b:LA)(d a:Int)(δ:T)(κl:(Int)->T)(κr:(Bool×(Int)×(Unit))->T):T:=br (decide (a<d)) (br (ixI b a) (br (ixT b a 3 [Sh.int .i64,Sh.int .i64,Sh.str] 0) (br (decide (a>=c.length)) (κr (true,(1),())) (br (ixI c a) (br (ixT c a 3 [Sh.int .i64,Sh.int .i64,Sh.str] 0) (br (xcE c b a !=0) (κr (true,(xcE c b a),())) (κl (i64.wrap (a+1)))) δ) δ)) δ) δ) (κr (false,0,()))
def xaS(d e a:LA)(b:Int):StT (Int) (Bool×(Int)×(Unit)):=λ(c)=>xcS d e a b c none inL inR
def xls:=xHs.l 39 0 [] [] Tryz.f172 0 lk0 [0,1,2,11,12,13] [0,1,6] [] (q6 (qL 3) (qL 3) (xNo 173 xNM) (qL 3) qI qI) xNM (λ(d,e,_,a,b,c,_) _=>(xaS d e a b,(c),λ p=>(.node p.1 (.leaf .ret [AV.list 3 d,AV.list 3 e,AV.int .i64 p.2.1] []) (.leaf (.exit 0) [AV.list 3 d,AV.list 3 e,.top] [])))) (false,0,()) λ(d,e,_,a,b,_,_) _ (c)=>(((d,e,(),a,b,c,()),()),xcS d e a b c none)
def xjS{T:Type}(a b:LA)(δ:T)(κ:Int->T):T:=br ((Iter (xaS a b a (↑a.length:Int)) 0).isSome) (br (((Iter (xaS a b a (↑a.length:Int)) 0).getD (false,0,())).fst) (κ (((Iter (xaS a b a (↑a.length:Int)) 0).getD (false,0,())).snd.fst)) (br (decide ((↑a.length:Int)<(↑b.length:Int))) (κ ((-1))) (κ (0)))) δ
def xlr(a b:LA):=xjS a b none some
def xKT:EO:=xHs.f Tryz.func172 39 0 [] [(2,xls.lp)] (lk1 xls.ok) (u3 (uL 3) (uL 3) (sEq (xNo (173:FuncId) xNM))) (λ(a,b,_,_) _=>xjS a b) (λ _ p=>AV.int .i64 p) 0
def xoA{T:Type}(a b:LA)(δ:T)(κ:Int->T):T:=br ((xlr a b).isSome) (κ ((xlr a b).getD 0)) δ
def xmL(a b:LA):=xoA a b none some
def xKU:EO:=xKT.f Tryz.func144 8 0 [] [] lk0 (u2 (uL 3) (uL 3)) (λ(a,b,_) _=>xoA a b) (λ _ p=>AV.int .i64 p) 0
def xmQ{T:Type}(a c b d:LA)(δ:T)(κ:Int->T):T:=br ((xmL a b).isSome) (κ ((xmL a b).getD 0)) δ
def xdV(c a d b:LA):=xmQ c a d b none some
def xC2:EO:=xKU.f Tryz.func143 10 0 [] [] lk0 (u2 (xN0 (u2 (uL 3) (uL 2))) (xN0 (u2 (uL 3) (uL 2)))) (λ((c,a,_),(d,b,_),_) _=>xmQ c a d b) (λ _ p=>AV.int .i64 p) 0
def xd6(a:Nat)(j:Int):=decide (0<=i64.wrap (j - 1))&&decide (i64.wrap (j - 1)<(↑a:Int))
def xct(j:Int):Nat:=0+(i64.wrap (j - 1)).toNat
def xd7(a:Nat)(j:Int):=decide (0<=j)&&decide (j<(↑a:Int))
def xgo(j:Int)(a:LA):=decide (0+j.toNat<a.length)
def xgm(j:Int)(a:LA):=xgo j a&&((a.getD (0+j.toNat) .top).cells.length==2&&xM6 [Sh.list 3,Sh.list 2] (a.getD (0+j.toNat) .top).cells 0)
def xaX(j:Int)(a:LA):=(a.getD (xct j) .top).cells
def xgk(j:Int)(a:LA):=decide (xct j<a.length)&&((xaX j a).length==2&&xM6 [Sh.list 3,Sh.list 2] (xaX j a) 0)
def xgl(j:Int)(a:LA):=xdV ((a.getD (0+j.toNat) .top).cells.getD 0 .top).toList ((a.getD (0+j.toNat) .top).cells.getD 1 .top).toList ((xaX j a).getD 0 .top).toList ((xaX j a).getD 1 .top).toList
def xgn(j:Int)(a:LA):=a.set (0+j.toNat) (AV.agg [AV.list 3 ((xaX j a).getD 0 .top).toList,AV.list 2 ((xaX j a).getD 1 .top).toList])
def xgG{T:Type}(d:Nat)(a b i j:Int)(c:LA)(δ:T)(κl:(Int×LA)->T)(κr:(LA)->T):T:=br (decide (j>a)) (br (xd7 d j) (br (xgm j c) (br (xd6 d j) (br (xgk j c) (br ((xgl j c).isSome) (br (decide ((xgl j c).getD 0<0)) (br (xd6 d j) (br (xgk j c) (br (xd7 d j) (br (xgm j c) (br (xd7 d j) (br (xgo j c) (br (xd6 d j) (br (decide (xct j<(xgn j c).length)) (κl (i64.wrap (j - 1),(xgn j c).set (xct j) (AV.agg [AV.list 3 ((c.getD (0+j.toNat) .top).cells.getD 0 .top).toList,AV.list 2 ((c.getD (0+j.toNat) .top).cells.getD 1 .top).toList]))) δ) δ) δ) δ) δ) δ) δ) δ) (κr (c))) δ) δ) δ) δ) δ) (κr (c))
def xb4(d:Nat)(a b i:Int):StT (Int×LA) (LA):=λ(j,c)=>xgG d a b i j c none inL inR
def xcs:=xC2.l 53 1 [148] [] Tryz.f188 1 lk0 [0,1,2,3,8,9] [0,1,2,3,8] [] (q6 (xNW 0 0 0) qI qI (xNo 143 xNM) qI qI) (q1 (qB 0 2 148 xNO)) (λ(c,a,b,_,i,j,_) (d,_)=>(xb4 c a b i,(j,d),λ p=>(.leaf (.exit 2) [AV.osl 0 0 0 c,AV.int .i64 a,AV.int .i64 b,AV.func 143 [],AV.int .i64 i] [bF 0 2 148 p]))) [] λ(c,a,b,_,i,_,_) _ (j,d)=>(((c,a,b,(),i,j,()),(d,())),xgG c a b i j d none)
def xgF{T:Type}(d:Nat)(a b i:Int)(c:LA)(δ:T)(κl:(Int×LA)->T)(κr:(LA)->T):T:=br (decide (i<b)) (br ((Iter (xb4 d a b i) (i,c)).isSome) (κl (i64.wrap (i+1),(Iter (xb4 d a b i) (i,c)).getD [])) δ) (κr (c))
def xb3(d:Nat)(a b:Int):StT (Int×LA) (LA):=λ(i,c)=>xgF d a b i c none inL inR
def xgj:=xC2.l 53 1 [148] [(4,xcs.lp)] Tryz.f188 0 (lk1 xcs.ok) [0,1,2,3,8] [] [] (q5 (xNW 0 0 0) qI qI (xNo 143 xNM) qI) (q1 (qB 0 2 148 xNO)) (λ(d,a,b,_,i,_) (c,_)=>(xb3 d a b,(i,c),λ p=>(.leaf (.exit 0) [] [bF 0 2 148 p]))) [] λ(d,a,b,_,_,_) _ (i,c)=>(((d,a,b,(),i,()),(c,())),xgF d a b i c none)
def xe0{T:Type}(n:Nat)(a b:Int)(c:LA)(δ:T)(κ:LA->T):T:=br ((Iter (xb3 n a b) (i64.wrap (a+1),c)).isSome) (κ ((Iter (xb3 n a b) (i64.wrap (a+1),c)).getD [])) δ
def xbC(n:Nat)(a b:Int)(c:LA):=xe0 n a b c none some
def xHt:EO:=xC2.fM Tryz.func188 53 1 [148] [(4,xcs.lp),(1,xgj.lp)] (lks (lkC xgj.ok (lkC xcs.ok lkN))) (u4 (sEq (xNW 0 0 0)) uI uI (sEq (xNo (143:FuncId) xNM))) (q1 (qB 0 2 148 xNO)) (λ(n,a,b,_,_) (c,_) _=>xe0 n a b c) (λ _ _ p=>(AV.tuple [],([bF 0 2 148 p]:List Box))) []
def xhB(a i:Int)(b:LA):=decide (0+(i64.wrap (a+i)).toNat<b.length)
def xc5(a i:Int)(b:LA):=(b.getD (0+(i64.wrap (a+i)).toNat) .top).cells
def xhC(b:Nat)(a i:Int):=decide (0<=i64.wrap (a+i))&&decide (i64.wrap (a+i)<(↑b:Int))
def xhD(a:Nat)(b i:Int):=decide (0<=i64.wrap (b+i))&&decide (i64.wrap (b+i)<(↑a:Int))
def xc6(b i:Int):Nat:=0+(i64.wrap (b+i)).toNat
def xc4(b i:Int)(a:LA):=(a.getD (xc6 b i) .top).cells
def xhA(a b i:Int)(c:LA):=c.set (0+(i64.wrap (a+i)).toNat) (AV.agg [AV.list 3 ((xc4 b i c).getD 0 .top).toList,AV.list 2 ((xc4 b i c).getD 1 .top).toList])
def xid{T:Type}(d:Nat)(a b n i:Int)(c:LA)(δ:T)(κl:(Int×LA)->T)(κr:(LA)->T):T:=br (decide (i<n)) (br (xhD d b i) (br (decide (xc6 b i<c.length)&&((xc4 b i c).length==2&&xM6 [Sh.list 3,Sh.list 2] (xc4 b i c) 0)) (br (xhC d a i) (br (xhB a i c&&((xc5 a i c).length==2&&xM6 [Sh.list 3,Sh.list 2] (xc5 a i c) 0)) (br (xhC d a i) (br (xhB a i c) (br (xhD d b i) (br (decide (xc6 b i<(xhA a b i c).length)) (κl (i64.wrap (i+1),(xhA a b i c).set (xc6 b i) (AV.agg [AV.list 3 ((xc5 a i c).getD 0 .top).toList,AV.list 2 ((xc5 a i c).getD 1 .top).toList]))) δ) δ) δ) δ) δ) δ) δ) δ) (κr (c))
def xcM(d:Nat)(a b n:Int):StT (Int×LA) (LA):=λ(i,c)=>xid d a b n i c none inL inR
def xhz:=xHt.l 38 1 [148] [] Tryz.f213 0 lk0 [0,1,2,3,10] [] [] (q5 (xNW 0 0 0) qI qI qI qI) (q1 (qB 0 2 148 xNO)) (λ(d,a,b,n,i,_) (c,_)=>(xcM d a b n,(i,c),λ p=>(.leaf (.exit 0) [] [bF 0 2 148 p]))) [] λ(d,a,b,n,_,_) _ (i,c)=>(((d,a,b,n,i,()),(c,())),xid d a b n i c none)
def xfX{T:Type}(n:Nat)(a b k:Int)(c:LA)(δ:T)(κ:LA->T):T:=br ((Iter (xcM n a b k) (0,c)).isSome) (κ ((Iter (xcM n a b k) (0,c)).getD [])) δ
def xa8(n:Nat)(a b k:Int)(c:LA):=xfX n a b k c none some
def xHu:EO:=xHt.fM Tryz.func213 38 1 [148] [(1,xhz.lp)] (lk1 xhz.ok) (u5 (sEq (xNW 0 0 0)) uI uI uI (sEq (xNo (143:FuncId) xNM))) (q1 (qB 0 2 148 xNO)) (λ(n,a,b,k,_,_) (c,_) _=>xfX n a b k c) (λ _ _ p=>(AV.tuple [],([bF 0 2 148 p]:List Box))) []
def xjG{T:Type}(b:Nat)(m i j:Int)(a:LA)(δ:T)(κl:(Int×Int×LA)->T)(κr:(Int×LA)->T):T:=br (i !=j) (br (decide (i>j)) (br ((xa8 b (i64.wrap (m - i)) m j a).isSome) (κl (i64.wrap (i - j),j,(xa8 b (i64.wrap (m - i)) m j a).getD [])) δ) (br ((xa8 b (i64.wrap (m - i)) (i64.wrap (i64.wrap (m+j) - i)) i a).isSome) (κl (i,i64.wrap (j - i),(xa8 b (i64.wrap (m - i)) (i64.wrap (i64.wrap (m+j) - i)) i a).getD [])) δ)) (κr (i,a))
def xfc(b:Nat)(m:Int):StT (Int×Int×LA) (Int×LA):=λ(i,j,a)=>xjG b m i j a none inL inR
def xjq:=xHu.l 58 1 [148] [] Tryz.f206 0 lk0 [0,2,4,10,11] [0,2,4,10] [] (q5 (xNW 0 0 0) qI (xNo 143 xNM) qI qI) (q1 (qB 0 2 148 xNO)) (λ(a,m,_,i,j,_) (b,_)=>(xfc a m,(i,j,b),λ p=>(.leaf (.exit 0) [AV.osl 0 0 0 a,AV.int .i64 m,AV.func 143 [],AV.int .i64 p.1] [bF 0 2 148 p.2]))) (0,[]) λ(a,m,_,_,_,_) _ (i,j,b)=>(((a,m,(),i,j,()),(b,())),xjG a m i j b none)
def xdm(n:Nat)(a m b:Int)(c:LA):=Iter (xfc n m) (i64.wrap (m - a),i64.wrap (b - m),c)
def xgY(n:Nat)(a m b:Int)(c:LA):=xa8 n (i64.wrap (m - (((xdm n a m b c).getD (0,[])).fst))) m (((xdm n a m b c).getD (0,[])).fst) ((xdm n a m b c).getD (0,[])).snd
def xhq{T:Type}(n:Nat)(a m b:Int)(c:LA)(δ:T)(κ:LA->T):T:=br ((xdm n a m b c).isSome) (br ((xgY n a m b c).isSome) (κ ((xgY n a m b c).getD [])) δ) δ
def xco(n:Nat)(a m b:Int)(c:LA):=xhq n a m b c none some
def xqf:EO:=xHu.fM Tryz.func206 58 1 [148] [(2,xjq.lp)] (lk1 xjq.ok) (u5 (sEq (xNW 0 0 0)) uI uI uI (sEq (xNo (143:FuncId) xNM))) (q1 (qB 0 2 148 xNO)) (λ(n,a,m,b,_,_) (c,_) _=>xhq n a m b c) (λ _ _ p=>(AV.tuple [],([bF 0 2 148 p]:List Box))) []
def xbq(i j:Int):=i64.wrap ((u64.wrap (i64.wrap (i+j))).fdiv 2)
def xdp(i j:Int)(a:LA):=(a.getD (0+(xbq i j).toNat) .top).cells
def xie(a i j:Int)(b:LA):=xdV ((xdp i j b).getD 0 .top).toList ((xdp i j b).getD 1 .top).toList ((b.getD (0+a.toNat) .top).cells.getD 0 .top).toList ((b.getD (0+a.toNat) .top).cells.getD 1 .top).toList
def xiJ{T:Type}(c:Nat)(a i j:Int)(b:LA)(δ:T)(κl:(Int×Int×LA)->T)(κr:(Int×LA)->T):T:=br (decide (i<j)) (br (decide (0<=xbq i j)&&decide (xbq i j<(↑c:Int))) (br (decide (0+(xbq i j).toNat<b.length)&&((xdp i j b).length==2&&xM6 [Sh.list 3,Sh.list 2] (xdp i j b) 0)) (br (decide (0<=a)&&decide (a<(↑c:Int))) (br (decide (0+a.toNat<b.length)&&((b.getD (0+a.toNat) .top).cells.length==2&&xM6 [Sh.list 3,Sh.list 2] (b.getD (0+a.toNat) .top).cells 0)) (br ((xie a i j b).isSome) (br (decide ((xie a i j b).getD 0<0)) (κl (i64.wrap (xbq i j+1),j,b)) (κl (i,xbq i j,b))) δ) δ) δ) δ) δ) (κr (i,b))
def xbW(c:Nat)(a:Int):StT (Int×Int×LA) (Int×LA):=λ(i,j,b)=>xiJ c a i j b none inL inR
def xa3:=xqf.l 220 1 [148] [] Tryz.f189 0 lk0 [0,1,4,10,11] [0,1,10] [] (q5 (xNW 0 0 0) qI (xNo 143 xNM) qI qI) (q1 (qB 0 2 148 xNO)) (λ(b,a,_,i,j,_) (c,_)=>(xbW b a,(i,j,c),λ p=>(.leaf (.exit 0) [AV.osl 0 0 0 b,AV.int .i64 a,AV.int .i64 p.1] [bF 0 2 148 p.2]))) (0,[]) λ(b,a,_,_,_,_) _ (i,j,c)=>(((b,a,(),i,j,()),(c,())),xiJ b a i j c none)
def xig(a:Nat)(k:Int):=decide (0<=i64.wrap (k+1))&&decide (i64.wrap (k+1)<(↑a:Int))
def xdr(k:Int):Nat:=0+(i64.wrap (k+1)).toNat
def xih(k:Int)(a:LA):=decide (0+k.toNat<a.length)
def xdq(k:Int)(a:LA):=(a.getD (xdr k) .top).cells
def xif(k:Int)(a:LA):=a.set (0+k.toNat) (AV.agg [AV.list 3 ((xdq k a).getD 0 .top).toList,AV.list 2 ((xdq k a).getD 1 .top).toList])
def xiK{T:Type}(b:Nat)(i k:Int)(a:LA)(δ:T)(κl:(Int×LA)->T)(κr:(LA)->T):T:=br (decide (k<i64.wrap (i - 1))) (br (xig b k) (br (decide (xdr k<a.length)&&((xdq k a).length==2&&xM6 [Sh.list 3,Sh.list 2] (xdq k a) 0)) (br (decide (0<=k)&&decide (k<(↑b:Int))) (br (xih k a&&((a.getD (0+k.toNat) .top).cells.length==2&&xM6 [Sh.list 3,Sh.list 2] (a.getD (0+k.toNat) .top).cells 0)) (br (decide (0<=k)&&decide (k<(↑b:Int))) (br (xih k a) (br (xig b k) (br (decide (xdr k<(xif k a).length)) (κl (i64.wrap (k+1),(xif k a).set (xdr k) (AV.agg [AV.list 3 ((a.getD (0+k.toNat) .top).cells.getD 0 .top).toList,AV.list 2 ((a.getD (0+k.toNat) .top).cells.getD 1 .top).toList]))) δ) δ) δ) δ) δ) δ) δ) δ) (κr (a))
def xeC(b:Nat)(i:Int):StT (Int×LA) (LA):=λ(k,a)=>xiK b i k a none inL inR
def xbr:=xqf.l 220 1 [148] [(3,xa3.lp)] Tryz.f189 1 lk0 [0,10,13] [] [] (q3 (xNW 0 0 0) qI qI) (q1 (qB 0 2 148 xNO)) (λ(b,i,k,_) (a,_)=>(xeC b i,(k,a),λ p=>(.leaf (.exit 2) [] [bF 0 2 148 p]))) [] λ(b,i,_,_) _ (k,a)=>(((b,i,k,()),(a,())),xiK b i k a none)
def xbs(i j:Int):=i64.wrap ((u64.wrap (i64.wrap (i+j))).fdiv 2)
def xds(i j:Int)(a:LA):=(a.getD (0+(xbs i j).toNat) .top).cells
def xii(m i j:Int)(a:LA):=xdV ((a.getD (0+m.toNat) .top).cells.getD 0 .top).toList ((a.getD (0+m.toNat) .top).cells.getD 1 .top).toList ((xds i j a).getD 0 .top).toList ((xds i j a).getD 1 .top).toList
def xiL{T:Type}(b:Nat)(m i j:Int)(a:LA)(δ:T)(κl:(Int×Int×LA)->T)(κr:(Int×LA)->T):T:=br (decide (i<j)) (br (decide (0<=m)&&decide (m<(↑b:Int))) (br (decide (0+m.toNat<a.length)&&((a.getD (0+m.toNat) .top).cells.length==2&&xM6 [Sh.list 3,Sh.list 2] (a.getD (0+m.toNat) .top).cells 0)) (br (decide (0<=xbs i j)&&decide (xbs i j<(↑b:Int))) (br (decide (0+(xbs i j).toNat<a.length)&&((xds i j a).length==2&&xM6 [Sh.list 3,Sh.list 2] (xds i j a) 0)) (br ((xii m i j a).isSome) (br (!decide ((xii m i j a).getD 0<0)) (κl (i64.wrap (xbs i j+1),j,a)) (κl (i,xbs i j,a))) δ) δ) δ) δ) δ) (κr (i,a))
def xbX(b:Nat)(m:Int):StT (Int×Int×LA) (Int×LA):=λ(i,j,a)=>xiL b m i j a none inL inR
def xcl:=xqf.l 220 1 [148] [(3,xa3.lp),(9,xbr.lp)] Tryz.f189 2 lk0 [0,2,4,14,15] [0,2,14] [] (q5 (xNW 0 0 0) qI (xNo 143 xNM) qI qI) (q1 (qB 0 2 148 xNO)) (λ(a,m,_,i,j,_) (b,_)=>(xbX a m,(i,j,b),λ p=>(.leaf (.exit 4) [AV.osl 0 0 0 a,AV.int .i64 m,AV.int .i64 p.1] [bF 0 2 148 p.2]))) (0,[]) λ(a,m,_,_,_,_) _ (i,j,b)=>(((a,m,(),i,j,()),(b,())),xiL a m i j b none)
def xik(a:Nat)(k:Int):=decide (0<=i64.wrap (k - 1))&&decide (i64.wrap (k - 1)<(↑a:Int))
def xdv(k:Int):Nat:=0+(i64.wrap (k - 1)).toNat
def xil(k:Int)(a:LA):=decide (0+k.toNat<a.length)
def xdu(k:Int)(a:LA):=(a.getD (xdv k) .top).cells
def xij(k:Int)(a:LA):=a.set (0+k.toNat) (AV.agg [AV.list 3 ((xdu k a).getD 0 .top).toList,AV.list 2 ((xdu k a).getD 1 .top).toList])
def xiM{T:Type}(b:Nat)(i k:Int)(a:LA)(δ:T)(κl:(Int×LA)->T)(κr:(LA)->T):T:=br (decide (k>i)) (br (xik b k) (br (decide (xdv k<a.length)&&((xdu k a).length==2&&xM6 [Sh.list 3,Sh.list 2] (xdu k a) 0)) (br (decide (0<=k)&&decide (k<(↑b:Int))) (br (xil k a&&((a.getD (0+k.toNat) .top).cells.length==2&&xM6 [Sh.list 3,Sh.list 2] (a.getD (0+k.toNat) .top).cells 0)) (br (decide (0<=k)&&decide (k<(↑b:Int))) (br (xil k a) (br (xik b k) (br (decide (xdv k<(xij k a).length)) (κl (i64.wrap (k - 1),(xij k a).set (xdv k) (AV.agg [AV.list 3 ((a.getD (0+k.toNat) .top).cells.getD 0 .top).toList,AV.list 2 ((a.getD (0+k.toNat) .top).cells.getD 1 .top).toList]))) δ) δ) δ) δ) δ) δ) δ) δ) (κr (a))
def xeD(b:Nat)(i:Int):StT (Int×LA) (LA):=λ(k,a)=>xiM b i k a none inL inR
def xdt:=xqf.l 220 1 [148] [(3,xa3.lp),(9,xbr.lp),(15,xcl.lp)] Tryz.f189 3 lk0 [0,14,17] [] [] (q3 (xNW 0 0 0) qI qI) (q1 (qB 0 2 148 xNO)) (λ(b,i,k,_) (a,_)=>(xeD b i,(k,a),λ p=>(.leaf (.exit 6) [] [bF 0 2 148 p]))) [] λ(b,i,_,_) _ (k,a)=>(((b,i,k,()),(a,())),xiM b i k a none)
def xaA(a r:Int):=i64.wrap ((u64.wrap (i64.wrap (a+r))).fdiv 2)
def xdw(c b r:Int)(a:LA):=(a.getD (0+(i64.wrap (c - xaA b r)).toNat) .top).cells
def xdy(b r:Int)(a:LA):=(a.getD (0+(xaA b r).toNat) .top).cells
def xim(c b r:Int)(a:LA):=xdV ((xdw c b r a).getD 0 .top).toList ((xdw c b r a).getD 1 .top).toList ((xdy b r a).getD 0 .top).toList ((xdy b r a).getD 1 .top).toList
def xiN{T:Type}(e:Nat)(a m b g n f c r:Int)(d:LA)(δ:T)(κl:(Int×Int×LA)->T)(κr:(Int×LA)->T):T:=br (decide (c<r)) (br (decide (0<=i64.wrap (f - xaA c r))&&decide (i64.wrap (f - xaA c r)<(↑e:Int))) (br (decide (0+(i64.wrap (f - xaA c r)).toNat<d.length)&&((xdw f c r d).length==2&&xM6 [Sh.list 3,Sh.list 2] (xdw f c r d) 0)) (br (decide (0<=xaA c r)&&decide (xaA c r<(↑e:Int))) (br (decide (0+(xaA c r).toNat<d.length)&&((xdy c r d).length==2&&xM6 [Sh.list 3,Sh.list 2] (xdy c r d) 0)) (br ((xim f c r d).isSome) (br (!decide ((xim f c r d).getD 0<0)) (κl (i64.wrap (xaA c r+1),r,d)) (κl (c,xaA c r,d))) δ) δ) δ) δ) δ) (κr (c,d))
def xc2(d:Nat)(a m b f n g:Int):StT (Int×Int×LA) (Int×LA):=λ(e,r,c)=>xiN d a m b f n g e r c none inL inR
def xfd:=xqf.l 220 1 [148] [(3,xa3.lp),(9,xbr.lp),(15,xcl.lp),(21,xdt.lp)] Tryz.f189 4 lk0 [0,1,2,3,4,18,19,20,21,22] [0,1,2,3,4,18,19,20] [] (q10 (xNW 0 0 0) qI qI qI (xNo 143 xNM) qI qI qI qI qI) (q1 (qB 0 2 148 xNO)) (λ(c,a,m,b,_,f,n,e,r,g,_) (d,_)=>(xc2 c a m b f n g,(e,r,d),λ p=>(.leaf (.exit 8) [AV.osl 0 0 0 c,AV.int .i64 a,AV.int .i64 m,AV.int .i64 b,AV.func 143 [],AV.int .i64 f,AV.int .i64 n,AV.int .i64 p.1] [bF 0 2 148 p.2]))) (0,[]) λ(c,a,m,b,_,f,n,_,_,g,_) _ (e,r,d)=>(((c,a,m,b,(),f,n,e,r,g,()),(d,())),xiN c a m b f n g e r d none)
def xfs(R:Nat->Int->Int->Int->LA->Option (LA)):LA->List Box->Option (Bool×AV×List Box):=omOf (xNL (sEq (xNW 0 0 0)) (xNL (sEq (pInt .i64)) (xNL (sEq (pInt .i64)) (xNL (sEq (pInt .i64)) (xNL (sEq (xNo (143:FuncId) xNM)) xNN))))) (xNK (xNZ 0 2 (148:TypeId) false true xNO) xNM) λ(n,(a,(m,(b,(_,_))))) (c,_)=>((R n a m b c).isSome,(AV.tuple [],([⟨0,2,148,((R n a m b c).getD []),false,true⟩]:List Box)))
def xdo(R:Nat->Int->Int->Int->LA->Option (LA)):Prop:=OmOk P0 xNJ 189 (xfs R)
def xaC(R:Nat->Int->Int->Int->LA->Option (LA)):Env:=(xqf.E.withM 189 (xfs R)).fn 220 1 (lsOf [148]) (xNn [(3,xa3.lp),(9,xbr.lp),(15,xcl.lp),(21,xdt.lp),(33,xfd.lp)])
def xom(R:Nat->Int->Int->Int->LA->Option (LA))(a:xdo R):xM1 P0 (xNJ.at 1) (xaC R):=(xqf.ok.withM a).fn
def xmt (R:Nat->Int->Int->Int->LA->Option (LA)) (c:xdo R):LoOk P0 (xNJ.at (xaC R).pin) (xaC R) (Tryz.f189.body.getD .skip):=xmW (ls:=[xM5 Tryz.f189 0,xM5 Tryz.f189 1,xM5 Tryz.f189 2,xM5 Tryz.f189 3,xM5 Tryz.f189 4]) Θ (fun l b lp a=>by
 simp only[zC,List.not_mem_nil,or_false]at b;rcases b with rfl|rfl|rfl|rfl|rfl
 . rw[show (xaC R).lp (xNf (xM5 Tryz.f189 0))=some (xa3.lp) by kernel_rfl]at a
   simp only[z6]at a;subst a;exact xa3.ok
 . rw[show (xaC R).lp (xNf (xM5 Tryz.f189 1))=some (xbr.lp) by kernel_rfl]at a
   simp only[z6]at a;subst a;exact xbr.ok
 . rw[show (xaC R).lp (xNf (xM5 Tryz.f189 2))=some (xcl.lp) by kernel_rfl]at a
   simp only[z6]at a;subst a;exact xcl.ok
 . rw[show (xaC R).lp (xNf (xM5 Tryz.f189 3))=some (xdt.lp) by kernel_rfl]at a
   simp only[z6]at a;subst a;exact xdt.ok
 . rw[show (xaC R).lp (xNf (xM5 Tryz.f189 4))=some (xfd.lp) by kernel_rfl]at a
   simp only [z6] at a;subst a;exact xfd.ok)
def xaa(a b:Int):=i64.wrap ((u64.wrap (i64.wrap (a+b))).fdiv 2)
def xbP(n:Nat)(a m:Int)(b:LA):=Iter (xeD n ((Iter (xbX n m) (a,m,b)).getD (0,[])).fst) (m,((Iter (xbX n m) (a,m,b)).getD (0,[])).snd)
def xbQ(n:Nat)(a m b:Int)(c:LA):=Iter (xeC n ((Iter (xbW n a) (m,b,c)).getD (0,[])).fst) (a,((Iter (xbW n a) (m,b,c)).getD (0,[])).snd)
def xbh(n:Nat)(a m b:Int)(c:LA):=Iter (xc2 n a m b (xaa a b) (i64.wrap (xaa a b+m)) (i64.wrap (i64.wrap (xaa a b+m) - 1))) (i64.wrap (i64.wrap (xaa a b+m) - b),xaa a b,c)
def xbi(n:Nat)(a m b:Int)(c:LA):=Iter (xc2 n a m b (xaa a b) (i64.wrap (xaa a b+m)) (i64.wrap (i64.wrap (xaa a b+m) - 1))) (a,m,c)
def xaf(n:Nat)(a m b:Int)(c:LA):=((xbh n a m b c).getD (0,[])).fst
def xag(n:Nat)(a m b:Int)(c:LA):=((xbi n a m b c).getD (0,[])).fst
def xal(n:Nat)(a m b:Int)(c:LA):=((xbh n a m b c).getD (0,[])).snd
def xam(n:Nat)(a m b:Int)(c:LA):=((xbi n a m b c).getD (0,[])).snd
def xah(n:Nat)(a m b:Int)(c:LA):=i64.wrap (i64.wrap (xaa a b+m) - xaf n a m b c)
def xai(n:Nat)(a m b:Int)(c:LA):=i64.wrap (i64.wrap (xaa a b+m) - xag n a m b c)
def xbL(n:Nat)(a m b:Int)(c:LA):=decide (xaf n a m b c<xaa a b)
def xbM(n:Nat)(a m b:Int)(c:LA):=decide (a<xaf n a m b c)
def xbN(n:Nat)(a m b:Int)(c:LA):=decide (xag n a m b c<xaa a b)
def xbO(n:Nat)(a m b:Int)(c:LA):=decide (a<xag n a m b c)
def xaY(n:Nat)(a m b:Int)(c:LA):=decide (xaa a b<xah n a m b c)
def xaZ(n:Nat)(a m b:Int)(c:LA):=decide (xah n a m b c<b)
def xax(n:Nat)(a m b:Int)(c:LA):=decide (xaa a b<xai n a m b c)
def xa0(n:Nat)(a m b:Int)(c:LA):=decide (xai n a m b c<b)
def xav(n:Nat)(a m b:Int)(c:LA):=(xco n (xaf n a m b c) m (xah n a m b c) (xal n a m b c)).getD []
def xaw(n:Nat)(a m b:Int)(c:LA):=(xco n (xag n a m b c) m (xai n a m b c) (xam n a m b c)).getD []
def xbR(R:Nat->Int->Int->Int->LA->Option (LA))(n:Nat)(a m b:Int)(c:LA):Option (LA):=R n (xaa a b) (xai n a m b c) b ((R n a (xag n a m b c) (xaa a b) (xaw n a m b c)).getD [])
def xbS(R:Nat->Int->Int->Int->LA->Option (LA))(n:Nat)(a m b:Int)(c:LA):Option (LA):=R n (xaa a b) (xah n a m b c) b ((R n a (xaf n a m b c) (xaa a b) (xav n a m b c)).getD [])
def xbd{T:Type}(R:Nat->Int->Int->Int->LA->Option (LA))(n:Nat)(a m b:Int)(c:LA)(δ:T)(κ:LA->T):T:=br (xaY n a m b c) (br (xaZ n a m b c) (br ((R n (xaa a b) (xah n a m b c) b (xav n a m b c)).isSome) (κ ((R n (xaa a b) (xah n a m b c) b (xav n a m b c)).getD [])) δ) (κ (xav n a m b c))) (κ (xav n a m b c))
def xbe{T:Type}(R:Nat->Int->Int->Int->LA->Option (LA))(n:Nat)(a m b:Int)(c:LA)(δ:T)(κ:LA->T):T:=br (xax n a m b c) (br (xa0 n a m b c) (br ((R n (xaa a b) (xai n a m b c) b (xaw n a m b c)).isSome) (κ ((R n (xaa a b) (xai n a m b c) b (xaw n a m b c)).getD [])) δ) (κ (xaw n a m b c))) (κ (xaw n a m b c))
def xbf{T:Type}(R:Nat->Int->Int->Int->LA->Option (LA))(n:Nat)(a m b:Int)(c:LA)(δ:T)(κ:LA->T):T:=br (xaY n a m b c) (br (xaZ n a m b c) (br ((R n (xaa a b) (xah n a m b c) b (xal n a m b c)).isSome) (κ ((R n (xaa a b) (xah n a m b c) b (xal n a m b c)).getD [])) δ) (κ (xal n a m b c))) (κ (xal n a m b c))
def xbb{T:Type}(R:Nat->Int->Int->Int->LA->Option (LA))(n:Nat)(a m b:Int)(c:LA)(δ:T)(κ:LA->T):T:=br (xbM n a m b c) (br (xbL n a m b c) (br ((R n a (xaf n a m b c) (xaa a b) (xal n a m b c)).isSome) (br (xaY n a m b c) (br (xaZ n a m b c) (br ((R n (xaa a b) (xah n a m b c) b ((R n a (xaf n a m b c) (xaa a b) (xal n a m b c)).getD [])).isSome) (κ ((R n (xaa a b) (xah n a m b c) b ((R n a (xaf n a m b c) (xaa a b) (xal n a m b c)).getD [])).getD [])) δ) (κ ((R n a (xaf n a m b c) (xaa a b) (xal n a m b c)).getD []))) (κ ((R n a (xaf n a m b c) (xaa a b) (xal n a m b c)).getD []))) δ) (xbf R n a m b c δ κ)) (xbf R n a m b c δ κ)
def xbg{T:Type}(R:Nat->Int->Int->Int->LA->Option (LA))(n:Nat)(a m b:Int)(c:LA)(δ:T)(κ:LA->T):T:=br (xax n a m b c) (br (xa0 n a m b c) (br ((R n (xaa a b) (xai n a m b c) b (xam n a m b c)).isSome) (κ ((R n (xaa a b) (xai n a m b c) b (xam n a m b c)).getD [])) δ) (κ (xam n a m b c))) (κ (xam n a m b c))
def xbc{T:Type}(R:Nat->Int->Int->Int->LA->Option (LA))(n:Nat)(a m b:Int)(c:LA)(δ:T)(κ:LA->T):T:=br (xbO n a m b c) (br (xbN n a m b c) (br ((R n a (xag n a m b c) (xaa a b) (xam n a m b c)).isSome) (br (xax n a m b c) (br (xa0 n a m b c) (br ((R n (xaa a b) (xai n a m b c) b ((R n a (xag n a m b c) (xaa a b) (xam n a m b c)).getD [])).isSome) (κ ((R n (xaa a b) (xai n a m b c) b ((R n a (xag n a m b c) (xaa a b) (xam n a m b c)).getD [])).getD [])) δ) (κ ((R n a (xag n a m b c) (xaa a b) (xam n a m b c)).getD []))) (κ ((R n a (xag n a m b c) (xaa a b) (xam n a m b c)).getD []))) δ) (xbg R n a m b c δ κ)) (xbg R n a m b c δ κ)
def xby{T:Type}(R:Nat->Int->Int->Int->LA->Option (LA))(n:Nat)(a m b:Int)(c:LA)(δ:T)(κ:LA->T):T:=br (i64.wrap (m - a)==1) (br ((Iter (xbW n a) (m,b,c)).isSome) (br ((xbQ n a m b c).isSome) (κ ((xbQ n a m b c).getD [])) δ) δ) (br (i64.wrap (b - m)==1) (br ((Iter (xbX n m) (a,m,c)).isSome) (br ((xbP n a m c).isSome) (κ ((xbP n a m c).getD [])) δ) δ) (br (decide (m>xaa a b)) (br ((xbh n a m b c).isSome) (br (decide (xaf n a m b c<m)) (br (decide (m<xah n a m b c)) (br ((xco n (xaf n a m b c) m (xah n a m b c) (xal n a m b c)).isSome) (br (xbM n a m b c) (br (xbL n a m b c) (br ((R n a (xaf n a m b c) (xaa a b) (xav n a m b c)).isSome) (br (xaY n a m b c) (br (xaZ n a m b c) (br ((xbS R n a m b c).isSome) (κ ((xbS R n a m b c).getD [])) δ) (κ ((R n a (xaf n a m b c) (xaa a b) (xav n a m b c)).getD []))) (κ ((R n a (xaf n a m b c) (xaa a b) (xav n a m b c)).getD []))) δ) (xbd R n a m b c δ κ)) (xbd R n a m b c δ κ)) δ) (xbb R n a m b c δ κ)) (xbb R n a m b c δ κ)) δ) (br ((xbi n a m b c).isSome) (br (decide (xag n a m b c<m)) (br (decide (m<xai n a m b c)) (br ((xco n (xag n a m b c) m (xai n a m b c) (xam n a m b c)).isSome) (br (xbO n a m b c) (br (xbN n a m b c) (br ((R n a (xag n a m b c) (xaa a b) (xaw n a m b c)).isSome) (br (xax n a m b c) (br (xa0 n a m b c) (br ((xbR R n a m b c).isSome) (κ ((xbR R n a m b c).getD [])) δ) (κ ((R n a (xag n a m b c) (xaa a b) (xaw n a m b c)).getD []))) (κ ((R n a (xag n a m b c) (xaa a b) (xaw n a m b c)).getD []))) δ) (xbe R n a m b c δ κ)) (xbe R n a m b c δ κ)) δ) (xbc R n a m b c δ κ)) (xbc R n a m b c δ κ)) δ)))
def xaN(R:Nat->Int->Int->Int->LA->Option (LA))(n:Nat)(a m b:Int)(c:LA):=xby R n a m b c none some
def xpx(R:Nat->Int->Int->Int->LA->Option (LA))(n:Nat)(a m b:Int)(xs:LA):Enc (λ(p:LA)=>(((AV.tuple [],([⟨0,2,148,p,false,true⟩]:List Box))):(AV×List Box))) (xaN R n a m b xs) (XFM P0 (xaC R) Tryz.f189 (Tryz.f189.body.getD .skip) [AV.osl (0:Id) 0 0 n,AV.int .i64 a,AV.int .i64 m,AV.int .i64 b,AV.func (143:FuncId) []] [{ver:=0,sz:=2,ty:=(148:TypeId),xs:=xs,frz:=false,pm:=true}]):=by(have h:XFM P0 (xaC R) Tryz.f189 (Tryz.f189.body.getD .skip) [AV.osl (0:Id) 0 0 n,AV.int .i64 a,AV.int .i64 m,AV.int .i64 b,AV.func (143:FuncId) []] [{ver:=0,sz:=2,ty:=(148:TypeId),xs:=xs,frz:=false,pm:=true}]=xby R n a m b xs none (λ(p:LA)=>some (((AV.tuple [],([⟨0,2,148,p,false,true⟩]:List Box))):(AV×List Box))):=by kernel_rfl);rw[h];unfold xaN xby xbb xbc xbd xbe xbf xbg;repeat' (first|refine Enc.br ?_ ?_|exact Enc.none|exact Enc.some rfl)
def xpZ(R:Nat->Int->Int->Int->LA->Option (LA)):LA->List Box->Option (Bool×AV×List Box):=omOf (xNL (sEq (xNW 0 0 0)) (xNL (sEq (pInt .i64)) (xNL (sEq (pInt .i64)) (xNL (sEq (pInt .i64)) (xNL (sEq (xNo (143:FuncId) xNM)) xNN))))) (xNK (xNZ 0 2 (148:TypeId) false true xNO) xNM) λ(n,(a,(m,(b,(_,_))))) (c,_)=>((xaN R n a m b c).isSome,((AV.tuple [],([⟨0,2,148,((xaN R n a m b c).getD []),false,true⟩]:List Box))))
def xpY(R:Nat->Int->Int->Int->LA->Option (LA))(c:xdo R):OmOk P0 xNJ 189 (xpZ R):=xjb λ g h k j i=>by obtain⟨n,⟨a,⟨m,⟨b,⟨_,_⟩⟩⟩⟩⟩:=g;obtain⟨l,_⟩:=h;obtain⟨e,f⟩:=Prod.mk.inj i;refine xk6 (p:=(xaC R).pin) (xk5 xNa (xNb P0 _) rfl (xom R c) rfl Tryz.func189 rfl Θ (xmt R c) ((xpx R _ _ _ _ _ _ (xcB (d:=[]) e)).trans ?_));exact congrArg some f
def xaz:Nat->Nat->Int->Int->Int->LA->Option (LA)|0=>λ _ _ _ _ _=>none|fu_+1=>λ n a m b c=>xaN (xaz fu_) n a m b c
def xiI:∀n,xdo (xaz n)|0=>xjb λ _ _ _ _ h=>absurd (Prod.mk.inj h).1 Bool.false_ne_true|fu_+1=>λ a H r b h=>xpY (xaz fu_) (xiI fu_) a H r b h
def xHv:Env:=xqf.E.withM 189 (xfs (xaz 1000))
def xF5:xM1 P0 xNJ xHv:=xqf.ok.withM (xiI _)
def xsu:EO:=EO.mk xHv xF5
def xjH{T:Type}(d:Nat)(n e a b:Int)(c:LA)(δ:T)(κl:(Int×Int×LA)->T)(κr:(Int×LA)->T):T:=br (decide (b<=n)) (br ((xbC d a b c).isSome) (κl (b,i64.wrap (b+e),(xbC d a b c).getD [])) δ) (κr (a,c))
def xck(e:Nat)(n c:Int):StT (Int×Int×LA) (Int×LA):=λ(a,b,d)=>xjH e n c a b d none inL inR
def xd8:=xsu.l 63 1 [148] [] Tryz.f171 0 lk0 [0,1,2,6,7,8] [0,1,2,6,7] [] (q6 (xNW 0 0 0) qI (xNo 143 xNM) qI qI qI) (q1 (qB 0 2 148 xNO)) (λ(d,n,_,c,a,b,_) (e,_)=>(xck d n c,(a,b,e),λ p=>(.leaf (.exit 0) [AV.osl 0 0 0 d,AV.int .i64 n,AV.func 143 [],AV.int .i64 c,AV.int .i64 p.1] [bF 0 2 148 p.2]))) (0,[]) λ(d,n,_,c,_,_,_) _ (a,b,e)=>(((d,n,(),c,a,b,()),(e,())),xjH d n c a b e none)
def xjI{T:Type}(e:Nat)(n c a b:Int)(d:LA)(δ:T)(κl:(Int×Int×LA)->T)(κr:(Int×LA)->T):T:=br (decide (b<=n)) (br ((xaz 1000 e a (i64.wrap (a+c)) b d).isSome) (κl (b,i64.wrap (b+i64.wrap (2*c)),(xaz 1000 e a (i64.wrap (a+c)) b d).getD [])) δ) (κr (a,d))
def xdn(e:Nat)(n c:Int):StT (Int×Int×LA) (Int×LA):=λ(a,b,d)=>xjI e n c a b d none inL inR
def xec:=xsu.l 63 1 [148] [(2,xd8.lp)] Tryz.f171 2 lk0 [0,1,2,6,7,8] [0,1,2,6,7] [] (q6 (xNW 0 0 0) qI (xNo 143 xNM) qI qI qI) (q1 (qB 0 2 148 xNO)) (λ(d,n,_,c,a,b,_) (e,_)=>(xdn d n c,(a,b,e),λ p=>(.leaf (.exit 4) [AV.osl 0 0 0 d,AV.int .i64 n,AV.func 143 [],AV.int .i64 c,AV.int .i64 p.1] [bF 0 2 148 p.2]))) (0,[]) λ(d,n,_,c,_,_,_) _ (a,b,e)=>(((d,n,(),c,a,b,()),(e,())),xjI d n c a b e none)
def xeb(c:Nat)(n a:Int)(b:LA):=Iter (xdn c n a) (0,i64.wrap (2*a),b)
def xbK(c:Nat)(n a:Int)(b:LA):=(xeb c n a b).getD (0,[])
def xea(c:Nat)(n a:Int)(b:LA):=i64.wrap (((xbK c n a b).fst)+a)
def xd9(b:Nat)(n a:Int)(c:LA):=xaz 1000 b ((xbK b n a c).fst) (xea b n a c) n ((xbK b n a c).snd)
def xcP{T:Type}(c:Nat)(n a:Int)(b:LA)(δ:T)(κl:(Int×LA)->T)(κr:(LA)->T):T:=br (decide (a<n)) (br ((xeb c n a b).isSome) (br (decide (xea c n a b<n)) (br ((xd9 c n a b).isSome) (κl (i64.wrap (a*2),(xd9 c n a b).getD [])) δ) (κl (i64.wrap (a*2),((xbK c n a b).snd)))) δ) (κr (b))
def xa2(c:Nat)(n:Int):StT (Int×LA) (LA):=λ(a,b)=>xcP c n a b none inL inR
def xjr:=xsu.l 63 1 [148] [(2,xd8.lp),(9,xec.lp)] Tryz.f171 1 (lk1 xec.ok) [0,1,2,6] [] [] (q4 (xNW 0 0 0) qI (xNo 143 xNM) qI) (q1 (qB 0 2 148 xNO)) (λ(c,n,_,a,_) (b,_)=>(xa2 c n,(a,b),λ p=>(.leaf (.exit 2) [] [bF 0 2 148 p]))) [] λ(c,n,_,_,_) _ (a,b)=>(((c,n,(),a,()),(b,())),xcP c n a b none)
def xg0(n:Nat)(k:Int)(a:LA):=(Iter (xck n k 20) (0,20,a)).getD (0,[])
def xgx(n:Nat)(k:Int)(a:LA):=xbC n (xg0 n k a).fst k (xg0 n k a).snd
def xgZ(n:Nat)(k:Int)(a:LA):=Iter (xa2 n k) (20,(xgx n k a).getD [])
def xhr{T:Type}(n:Nat)(k:Int)(a:LA)(δ:T)(κ:LA->T):T:=br ((Iter (xck n k 20) (0,20,a)).isSome) (br ((xgx n k a).isSome) (br ((xgZ n k a).isSome) (κ ((xgZ n k a).getD [])) δ) δ) δ
def xfT(n:Nat)(k:Int)(a:LA):=xhr n k a none some
def xKV:EO:=xsu.fM Tryz.func171 63 1 [148] [(2,xd8.lp),(9,xec.lp),(7,xjr.lp)] (lks (lkC xd8.ok (lkC xjr.ok (lkC xec.ok lkN)))) (u3 (sEq (xNW 0 0 0)) uI (sEq (xNo (143:FuncId) xNM))) (q1 (qB 0 2 148 xNO)) (λ(n,k,_,_) (a,_) _=>xhr n k a) (λ _ _ p=>(AV.tuple [],([bF 0 2 148 p]:List Box))) []
def xgX{T:Type}(n:Nat)(a:LA)(δ:T)(κ:LA->T):T:=br ((xfT n (↑n:Int) a).isSome) (κ ((xfT n (↑n:Int) a).getD [])) δ
def xhF(n:Nat)(a:LA):=xgX n a none some
def xHw:EO:=xKV.fM Tryz.func142 9 1 [148] [] lk0 (u2 (sEq (xNW 0 0 0)) (sEq (xNo (143:FuncId) xNM))) (q1 (qB 0 2 148 xNO)) (λ(n,_,_) (a,_) _=>xgX n a) (λ _ _ p=>(AV.tuple [],([bF 0 2 148 p]:List Box))) []
def xe3(b:LA)(c:Int)(a:LA):=a++[AV.agg [AV.list 3 (gC b c 0).toList,AV.list 2 []]]
def xca(a:Nat):Nat:=0+(↑a:Int).toNat
def xcX(a:LA)(b:Int):=(xkV (gC a b 0).toList).getD []
def xht(d:LA)(f:Int)(b:Nat)(e:Int)(c a:LA):=decide (xca b<(xe3 d e a).length)
def xbj(c:LA)(b:Nat)(d:Int)(a:LA):=((xe3 c d a).getD (xca b) .top).cells
def xgK(a:LA)(b:Int):=decide ((xcX a b).length<=4611686018427387904)
def xe4(b:LA)(c:Int)(a:LA):=(xNj (AV.int .i64 0) a (xcX b c)).toInt
def xhu(c:LA)(b:Nat)(d:Int)(a:LA):=decide (0<=xe4 c d a)&&decide (xe4 c d a<(↑b:Int))
def xaK(c:LA)(b:Nat)(d:Int)(a:LA):=((xbj c b d a).getD 1 .top).toList.length
def xaD(b:LA)(c:Int)(a:LA):Nat:=0+(xe4 b c a).toNat
def xgJ(a:LA)(d:Nat)(b:Int)(c:LA):=((xbj a d b c).getD 1 .top).toList++[AV.agg [AV.int .i64 (gC a b 1).toInt,AV.int .i64 (gC a b 2).toInt]]
def xfw(c:LA)(b:Nat)(d:Int)(a:LA):=(xe3 c d a).set (xca b) (AV.agg (List.take 1 (xbj c b d a)++[AV.int .i64 (↑(xaK c b d a):Int)]++List.drop 2 (xbj c b d a)))
def xhv(c:LA)(d:Int)(a b:LA):=decide (xaD c d a<b.length)
def xaL(c:LA)(d:Int)(a b:LA):=((b.getD (xaD c d a) .top).cells.getD 1 .top).toList.length
def xgI(b:LA)(c:Int)(a d:LA):=((d.getD (xaD b c a) .top).cells.getD 1 .top).toList++[AV.agg [AV.int .i64 (gC b c 1).toInt,AV.int .i64 (gC b c 2).toInt]]
def xel(c:LA)(a:Nat)(d:Int)(b:LA):=((xfw c a d b).getD (xca a) .top).cells
def xfy(c:LA)(d:Int)(a b:LA):=b.set (xaD c d a) (AV.agg (List.take 1 (b.getD (xaD c d a) .top).cells++[AV.int .i64 (↑(xaL c d a b):Int)]++List.drop 2 (b.getD (xaD c d a) .top).cells))
def xem(c:LA)(d:Int)(a b:LA):=((xfy c d a b).getD (xaD c d a) .top).cells
def xeG{T:Type}(e:LA)(f:Int)(d:Nat)(c:Int)(b a:LA)(δ:T)(κl:(Nat×Int×LA×LA)->T)(κr:(Nat×LA)->T):T:=br (decide (c<f)) (br (ixI e c) (br (ixT e c 3 [Sh.list 3,Sh.int .i64,Sh.int .i64] 0) (br (!xhk (gC e c 1).toInt (gC e c 2).toInt) (κl (d,i64.wrap (c+1),b,a)) (br ((xkV (gC e c 0).toList).isSome) (br (xgK e c&&xMx (Sh.int .i64) (xNj (AV.int .i64 0) b (xcX e c))) (br (!xNv b (xcX e c)) (br (decide (b.length<4611686018427387904)&&xgK e c) (br (rmB d a 1 48) (br (decide ((↑d:Int)<(↑(d+1):Int))) (br (xht e f d c b a&&(xNH 2 ((xbj e d c a).getD 1 .top)&&(xbj e d c a).length==2)) (br (xht e f d c b a&&(xNH 2 ((xbj e d c a).getD 1 .top)&&((xbj e d c a).length==2&&(2*xaK e d c a==2*xaK e d c a&&(xaK e d c a==xaK e d c a&&(xaK e d c a==xaK e d c a&&(decide ((xaK e d c a+1)*16<=140737488355328)&&decide (xaK e d c a+1<=4611686018427387904)))))))) (br (decide ((↑d:Int)<(↑(d+1):Int))) (br (decide (xca d<(xfw e d c a).length)&&((xel e d c a).length==2&&(xaK e d c a+1==(xgJ e d c a).length&&xN3 ((xel e d c a).getD 1 .top) (xaK e d c a+1)))) (κl (d+1,i64.wrap (c+1),xNh b (xcX e c) (AV.int .i64 (↑d:Int)),(xfw e d c a).set (xca d) (AV.agg (List.take 1 (xel e d c a)++[AV.list 2 (xgJ e d c a)]++List.drop 2 (xel e d c a))))) δ) δ) δ) δ) δ) δ) δ) (br (xhu e d c b) (br (xhv e c b a&&(xNH 2 ((a.getD (xaD e c b) .top).cells.getD 1 .top)&&(a.getD (xaD e c b) .top).cells.length==2)) (br (xhv e c b a&&(xNH 2 ((a.getD (xaD e c b) .top).cells.getD 1 .top)&&((a.getD (xaD e c b) .top).cells.length==2&&(2*xaL e c b a==2*xaL e c b a&&(xaL e c b a==xaL e c b a&&(xaL e c b a==xaL e c b a&&(decide ((xaL e c b a+1)*16<=140737488355328)&&decide (xaL e c b a+1<=4611686018427387904)))))))) (br (xhu e d c b) (br (decide (xaD e c b<(xfy e c b a).length)&&((xem e c b a).length==2&&(xaL e c b a+1==(xgI e c b a).length&&xN3 ((xem e c b a).getD 1 .top) (xaL e c b a+1)))) (κl (d,i64.wrap (c+1),b,(xfy e c b a).set (xaD e c b) (AV.agg (List.take 1 (xem e c b a)++[AV.list 2 (xgI e c b a)]++List.drop 2 (xem e c b a))))) δ) δ) δ) δ) δ)) δ) δ)) δ) δ) (κr (d,a))
def xb1(d:LA)(e:Int):StT (Nat×Int×LA×LA) (Nat×LA):=λ(c,f,a,b)=>xeG d e c f a b none inL inR
def xoE:=xHw.l 60 0 [] [] Tryz.f126 0 lk0 [3,4,11,12,13] [4] [(4,2,223474614420)] (q5 (xNX 0 0 0 0) (xNW 1 0 0) (qL 3) qI qI) (q2 (qB 0 2 1208925819615333616451584 xNO) (qB 0 2 223474614420 xNO)) (λ(_,c,d,e,f,_) (a,b,_)=>(xb1 d e,(c,f,a,b),λ p=>(.leaf (.exit 0) [AV.osl 0 0 0 p.1] [bF 0 2 223474614420 p.2]))) (0,[]) λ(_,_,d,e,_,_) _ (c,f,a,b)=>((((),c,d,e,f,()),(a,b,())),xeG d e c f a b none)
def xmR(l:LA):=Iter (xb1 l (↑l.length:Int)) (0,0,[],[])
def xfC(l:LA):=(xmR l).getD (0,[])
def xjK(l:LA):=xhF ((xfC l).fst) ((xfC l).snd)
def xnN{T:Type}(l:LA)(δ:T)(κ:LA->T):T:=br ((xmR l).isSome) (br (xNw 2 1 ((xfC l).snd)) (br ((xjK l).isSome) (br (decide (0+((xfC l).fst)<=((xjK l).getD []).length)&&true) (κ (List.take ((xfC l).fst) (List.drop 0 ((xjK l).getD [])))) δ) δ) δ) δ
def xfk(l:LA):=xnN l none some
def xHy:EO:=xHw.f Tryz.func126 60 0 [] [(4,xoE.lp)] (lk1 xoE.ok) (u1 (uL 3)) (λ(l,_) _=>xnN l) (λ _ p=>AV.list 2 p) []
end Go.Sim.M
end
